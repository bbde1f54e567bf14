/-
  No cell of these rows narrows 'for every input' (looked for: loops, veiled, ifaces, maps, wideKeys, modest, calm, conditions, laid).
  DERIVED. THE GIVEN ROWS OF THIS SEAT. 6 by the template 'for every input the law returns true; each argument reads behind the call as it read before'; 0 by the template 'total and deterministic' (their statements: YtghfklophkekjaaTotals.lean).
  GIVEN WITH THE SEED: the statements are not yours to turn. If you find one false, say at which input.
  Laid BY PROGRAM, IN A SANDBOX (cutbox-rows.mjs): the forced cells as the released guide's own fill.sh prints them over the translation 5530db04e630bbc2… (all of the seat's roots in one cut). By AI agents, Wed Nov 11 2026. No macro, syntax, notation, axiom, sorry.
-/
import Derived.Test.YtghfklophkekjaaChecked
import GoSem.Claim
import GoSem.ClaimJoined
import GoSem.ClaimMapViews
import Derived.JoinedTies
import Derived.KernelRfl
namespace Go.Proofs.Ytghfklophkekjaa
/- THE CELL 'sum', in the pinned program and in every row, IS THE sha256 OF THE DUMP (.gsa) THAT YtghfklophkekjaaProg.lean LOADS. Nothing in Lean hashes anything: it is a label: what it is worth is what the hold of that sum in a sandbox is worth. -/
noncomputable def Try.pinned : Pinned := { name := "ytghfklophkekjaa", sum := "5530db04e630bbc2a67a36ae4034c3ecf4f9f18ab4d265fc7130f9254db8ec2e", checked := Try.checked }
namespace Rows
def none {H : Type} : Left H := { results := [], args := [] }

/-- 'laws.FnExactShelfOk': WHATEVER THE INPUT: true; the input reads as it did. -/
def fnExactShelfOkSpec : ChangeSpec := { name := "fnExactShelfOk", fn := fun _ => fun
  | [d] => { results := [.lit (.bool true)], args := [d] }
  | _ => none }
def fnExactShelfOkRow : OpenClaim := { program := "ytghfklophkekjaa", sum := "5530db04e630bbc2a67a36ae4034c3ecf4f9f18ab4d265fc7130f9254db8ec2e", func := "loop.example/g00851/laws.FnExactShelfOk", spec := "fnExactShelfOk", apart := false }
def FnExactShelfOkSaid : Prop := fnExactShelfOkRow.holds Try.pinned (OpenSpec.ofChange fnExactShelfOkSpec)

/-- ITS FALSE NEIGHBOUR: 'it returns false'. Refute it at one input. -/
def fnExactShelfOkWrong : ChangeSpec := { name := "fnExactShelfOk", fn := fun _ => fun
  | [d] => { results := [.lit (.bool false)], args := [d] }
  | _ => none }
def FnExactShelfOkWrongFalsely : Prop := fnExactShelfOkRow.holds Try.pinned (OpenSpec.ofChange fnExactShelfOkWrong)

/-- 'laws.FnExactShotOk': WHATEVER THE INPUT: true; the input reads as it did. -/
def fnExactShotOkSpec : ChangeSpec := { name := "fnExactShotOk", fn := fun _ => fun
  | [d] => { results := [.lit (.bool true)], args := [d] }
  | _ => none }
def fnExactShotOkRow : OpenClaim := { program := "ytghfklophkekjaa", sum := "5530db04e630bbc2a67a36ae4034c3ecf4f9f18ab4d265fc7130f9254db8ec2e", func := "loop.example/g00851/laws.FnExactShotOk", spec := "fnExactShotOk", apart := false }
def FnExactShotOkSaid : Prop := fnExactShotOkRow.holds Try.pinned (OpenSpec.ofChange fnExactShotOkSpec)

/-- ITS FALSE NEIGHBOUR: 'it returns false'. Refute it at one input. -/
def fnExactShotOkWrong : ChangeSpec := { name := "fnExactShotOk", fn := fun _ => fun
  | [d] => { results := [.lit (.bool false)], args := [d] }
  | _ => none }
def FnExactShotOkWrongFalsely : Prop := fnExactShotOkRow.holds Try.pinned (OpenSpec.ofChange fnExactShotOkWrong)

/-- 'laws.FnExactNewStore': WHATEVER THE INPUT: true; the input reads as it did. -/
def fnExactNewStoreSpec : ChangeSpec := { name := "fnExactNewStore", fn := fun _ => fun
  | [] => { results := [.lit (.bool true)], args := [] }
  | _ => none }
def fnExactNewStoreRow : OpenClaim := { program := "ytghfklophkekjaa", sum := "5530db04e630bbc2a67a36ae4034c3ecf4f9f18ab4d265fc7130f9254db8ec2e", func := "loop.example/g00851/laws.FnExactNewStore", spec := "fnExactNewStore", apart := false }
def FnExactNewStoreSaid : Prop := fnExactNewStoreRow.holds Try.pinned (OpenSpec.ofChange fnExactNewStoreSpec)

/-- ITS FALSE NEIGHBOUR: 'it returns false'. Refute it at one input. -/
def fnExactNewStoreWrong : ChangeSpec := { name := "fnExactNewStore", fn := fun _ => fun
  | [] => { results := [.lit (.bool false)], args := [] }
  | _ => none }
def FnExactNewStoreWrongFalsely : Prop := fnExactNewStoreRow.holds Try.pinned (OpenSpec.ofChange fnExactNewStoreWrong)

/-- 'laws.FnExactWipedSlot': WHATEVER THE INPUT: true; the input reads as it did. -/
def fnExactWipedSlotSpec : ChangeSpec := { name := "fnExactWipedSlot", fn := fun _ => fun
  | [d1, d2] => { results := [.lit (.bool true)], args := [d1, d2] }
  | _ => none }
def fnExactWipedSlotRow : OpenClaim := { program := "ytghfklophkekjaa", sum := "5530db04e630bbc2a67a36ae4034c3ecf4f9f18ab4d265fc7130f9254db8ec2e", func := "loop.example/g00851/laws.FnExactWipedSlot", spec := "fnExactWipedSlot", apart := false }
def FnExactWipedSlotSaid : Prop := fnExactWipedSlotRow.holds Try.pinned (OpenSpec.ofChange fnExactWipedSlotSpec)

/-- ITS FALSE NEIGHBOUR: 'it returns false'. Refute it at one input. -/
def fnExactWipedSlotWrong : ChangeSpec := { name := "fnExactWipedSlot", fn := fun _ => fun
  | [d1, d2] => { results := [.lit (.bool false)], args := [d1, d2] }
  | _ => none }
def FnExactWipedSlotWrongFalsely : Prop := fnExactWipedSlotRow.holds Try.pinned (OpenSpec.ofChange fnExactWipedSlotWrong)

/-- 'laws.FnExactStoreOk': WHATEVER THE INPUT: true; the input reads as it did. -/
def fnExactStoreOkSpec : ChangeSpec := { name := "fnExactStoreOk", fn := fun _ => fun
  | [d] => { results := [.lit (.bool true)], args := [d] }
  | _ => none }
def fnExactStoreOkRow : OpenClaim := { program := "ytghfklophkekjaa", sum := "5530db04e630bbc2a67a36ae4034c3ecf4f9f18ab4d265fc7130f9254db8ec2e", func := "loop.example/g00851/laws.FnExactStoreOk", spec := "fnExactStoreOk", apart := false }
def FnExactStoreOkSaid : Prop := fnExactStoreOkRow.holds Try.pinned (OpenSpec.ofChange fnExactStoreOkSpec)

/-- ITS FALSE NEIGHBOUR: 'it returns false'. Refute it at one input. -/
def fnExactStoreOkWrong : ChangeSpec := { name := "fnExactStoreOk", fn := fun _ => fun
  | [d] => { results := [.lit (.bool false)], args := [d] }
  | _ => none }
def FnExactStoreOkWrongFalsely : Prop := fnExactStoreOkRow.holds Try.pinned (OpenSpec.ofChange fnExactStoreOkWrong)

/-- 'laws.FnExactFetchOf': WHATEVER THE INPUT: true; the input reads as it did. -/
def fnExactFetchOfSpec : ChangeSpec := { name := "fnExactFetchOf", fn := fun _ => fun
  | [d] => { results := [.lit (.bool true)], args := [d] }
  | _ => none }
def fnExactFetchOfRow : OpenClaim := { program := "ytghfklophkekjaa", sum := "5530db04e630bbc2a67a36ae4034c3ecf4f9f18ab4d265fc7130f9254db8ec2e", func := "loop.example/g00851/laws.FnExactFetchOf", spec := "fnExactFetchOf", apart := false }
def FnExactFetchOfSaid : Prop := fnExactFetchOfRow.holds Try.pinned (OpenSpec.ofChange fnExactFetchOfSpec)

/-- ITS FALSE NEIGHBOUR: 'it returns false'. Refute it at one input. -/
def fnExactFetchOfWrong : ChangeSpec := { name := "fnExactFetchOf", fn := fun _ => fun
  | [d] => { results := [.lit (.bool false)], args := [d] }
  | _ => none }
def FnExactFetchOfWrongFalsely : Prop := fnExactFetchOfRow.holds Try.pinned (OpenSpec.ofChange fnExactFetchOfWrong)

/- THE SECOND FORM. 'bulk': how many values and letters a reading holds, each counted each time it is reached (what is shared counts as often as it is met; a slice's spare places count too). A statement '..UptoSaid' is the law's where the arguments, and the package variables that the reading takes, are together of bulk at most 1048576: NARROWER than '..Said'. Prove '..Said' where nothing that the law and all that it calls make is longer than what came in: it says more and counts as full. Else prove '..UptoSaid'. A law counts once. -/
mutual
def uptoBulk {H : Type} : DataW H → Nat
  | .lit (.string bytes) => bytes.length + 1
  | .lit _ => 1
  | .nil => 1
  | .ptr d => uptoBulk d + 1
  | .slice elems spare => uptoBulkAll elems + uptoBulkAll spare + 1
  | .agg parts => uptoBulkAll parts + 1
  | .iface _ d => uptoBulk d + 1
  | .map entries => uptoBulkEntries entries + 1
  | .held _ => 1
def uptoBulkAll {H : Type} : List (DataW H) → Nat
  | [] => 0
  | d :: r => uptoBulk d + uptoBulkAll r
def uptoBulkEntries {H : Type} : List (Lit × DataW H) → Nat
  | [] => 0
  | x :: r => uptoBulkEntry x + uptoBulkEntries r
def uptoBulkEntry {H : Type} : Lit × DataW H → Nat
  | (.string bytes, d) => bytes.length + uptoBulk d + 1
  | (_, d) => uptoBulk d + 1
 end
def uptoSmall : (H : Type) → List (DataW H) → Bool := fun _ ds => decide (uptoBulkAll ds ≤ 1048576)
def OpenSpec.upto (s : _root_.Go.ChangeSpec) : _root_.Go.OpenSpec := { _root_.Go.OpenSpec.ofChange s with cond := some uptoSmall }

/-- 'laws.FnExactShelfOk', WHERE WHAT IT READS IS OF BULK AT MOST 1048576: true; the input reads as it did. -/
def fnExactShelfOkUptoRow : OpenClaim := { program := "ytghfklophkekjaa", sum := "5530db04e630bbc2a67a36ae4034c3ecf4f9f18ab4d265fc7130f9254db8ec2e", func := "loop.example/g00851/laws.FnExactShelfOk", spec := "fnExactShelfOk", apart := false, narrowed := true }
def FnExactShelfOkUptoSaid : Prop := fnExactShelfOkUptoRow.holds Try.pinned (OpenSpec.upto fnExactShelfOkSpec)

/-- 'laws.FnExactShotOk', WHERE WHAT IT READS IS OF BULK AT MOST 1048576: true; the input reads as it did. -/
def fnExactShotOkUptoRow : OpenClaim := { program := "ytghfklophkekjaa", sum := "5530db04e630bbc2a67a36ae4034c3ecf4f9f18ab4d265fc7130f9254db8ec2e", func := "loop.example/g00851/laws.FnExactShotOk", spec := "fnExactShotOk", apart := false, narrowed := true }
def FnExactShotOkUptoSaid : Prop := fnExactShotOkUptoRow.holds Try.pinned (OpenSpec.upto fnExactShotOkSpec)

/-- 'laws.FnExactNewStore', WHERE WHAT IT READS IS OF BULK AT MOST 1048576: true; the input reads as it did. -/
def fnExactNewStoreUptoRow : OpenClaim := { program := "ytghfklophkekjaa", sum := "5530db04e630bbc2a67a36ae4034c3ecf4f9f18ab4d265fc7130f9254db8ec2e", func := "loop.example/g00851/laws.FnExactNewStore", spec := "fnExactNewStore", apart := false, narrowed := true }
def FnExactNewStoreUptoSaid : Prop := fnExactNewStoreUptoRow.holds Try.pinned (OpenSpec.upto fnExactNewStoreSpec)

/-- 'laws.FnExactWipedSlot', WHERE WHAT IT READS IS OF BULK AT MOST 1048576: true; the input reads as it did. -/
def fnExactWipedSlotUptoRow : OpenClaim := { program := "ytghfklophkekjaa", sum := "5530db04e630bbc2a67a36ae4034c3ecf4f9f18ab4d265fc7130f9254db8ec2e", func := "loop.example/g00851/laws.FnExactWipedSlot", spec := "fnExactWipedSlot", apart := false, narrowed := true }
def FnExactWipedSlotUptoSaid : Prop := fnExactWipedSlotUptoRow.holds Try.pinned (OpenSpec.upto fnExactWipedSlotSpec)

/-- 'laws.FnExactStoreOk', WHERE WHAT IT READS IS OF BULK AT MOST 1048576: true; the input reads as it did. -/
def fnExactStoreOkUptoRow : OpenClaim := { program := "ytghfklophkekjaa", sum := "5530db04e630bbc2a67a36ae4034c3ecf4f9f18ab4d265fc7130f9254db8ec2e", func := "loop.example/g00851/laws.FnExactStoreOk", spec := "fnExactStoreOk", apart := false, narrowed := true }
def FnExactStoreOkUptoSaid : Prop := fnExactStoreOkUptoRow.holds Try.pinned (OpenSpec.upto fnExactStoreOkSpec)

/-- 'laws.FnExactFetchOf', WHERE WHAT IT READS IS OF BULK AT MOST 1048576: true; the input reads as it did. -/
def fnExactFetchOfUptoRow : OpenClaim := { program := "ytghfklophkekjaa", sum := "5530db04e630bbc2a67a36ae4034c3ecf4f9f18ab4d265fc7130f9254db8ec2e", func := "loop.example/g00851/laws.FnExactFetchOf", spec := "fnExactFetchOf", apart := false, narrowed := true }
def FnExactFetchOfUptoSaid : Prop := fnExactFetchOfUptoRow.holds Try.pinned (OpenSpec.upto fnExactFetchOfSpec)

end Rows
end Go.Proofs.Ytghfklophkekjaa
