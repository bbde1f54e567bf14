/-
  No cell of these rows narrows 'for every input' (looked for: loops, veiled, ifaces, maps, wideKeys, modest, calm, conditions, laid).
  DERIVED. THE GIVEN ROWS OF THIS SEAT. 4 by the template 'for every input the law returns true; each argument reads behind the call as it read before'; 0 by the template 'total and deterministic' (their statements: YtemhbbpbmgpcaaaGreatTotals.lean).
  GIVEN WITH THE SEED: the statements are not yours to turn. If you find one false, say at which input.
  Laid BY PROGRAM, IN A SANDBOX (cutbox-rows.mjs): the forced cells as the released guide's own fill.sh prints them over the translation 8aa536e00acb2d71… (all of the seat's roots in one cut). By AI agents, Wed Nov 11 2026. No macro, syntax, notation, axiom, sorry.
-/
import Derived.Test.YtemhbbpbmgpcaaaGreatChecked
import GoSem.Claim
import GoSem.ClaimJoined
import GoSem.ClaimMapViews
import Derived.JoinedTies
import Derived.KernelRfl
namespace Go.Proofs.YtemhbbpbmgpcaaaGreat
/- THE CELL 'sum', in the pinned program and in every row, IS THE sha256 OF THE DUMP (.gsa) THAT YtemhbbpbmgpcaaaGreatProg.lean LOADS. Nothing in Lean hashes anything: it is a label: what it is worth is what the hold of that sum in a sandbox is worth. -/
noncomputable def Tryz.pinned : Pinned := { name := "ytemhbbpbmgpcaaagreat", sum := "8aa536e00acb2d7133a5bbad1b75e9a96dfb20253fc7f7a4a7d931ac992a8dd1", checked := Tryz.checked }
namespace Rows
def none {H : Type} : Left H := { results := [], args := [] }

/-- 'laws.FnExactShotWrote': WHATEVER THE INPUT: true; the input reads as it did. -/
def fnExactShotWroteSpec : ChangeSpec := { name := "fnExactShotWrote", fn := fun _ => fun
  | [d1, d2, d3] => { results := [.lit (.bool true)], args := [d1, d2, d3] }
  | _ => none }
def fnExactShotWroteRow : OpenClaim := { program := "ytemhbbpbmgpcaaagreat", sum := "8aa536e00acb2d7133a5bbad1b75e9a96dfb20253fc7f7a4a7d931ac992a8dd1", func := "loop.example/g00851/laws.FnExactShotWrote", spec := "fnExactShotWrote", apart := false }
def FnExactShotWroteSaid : Prop := fnExactShotWroteRow.holds Tryz.pinned (OpenSpec.ofChange fnExactShotWroteSpec)

/-- ITS FALSE NEIGHBOUR: 'it returns false'. Refute it at one input. -/
def fnExactShotWroteWrong : ChangeSpec := { name := "fnExactShotWrote", fn := fun _ => fun
  | [d1, d2, d3] => { results := [.lit (.bool false)], args := [d1, d2, d3] }
  | _ => none }
def FnExactShotWroteWrongFalsely : Prop := fnExactShotWroteRow.holds Tryz.pinned (OpenSpec.ofChange fnExactShotWroteWrong)

/-- 'laws.FnExactShotAt': WHATEVER THE INPUT: true; the input reads as it did. -/
def fnExactShotAtSpec : ChangeSpec := { name := "fnExactShotAt", fn := fun _ => fun
  | [d1, d2] => { results := [.lit (.bool true)], args := [d1, d2] }
  | _ => none }
def fnExactShotAtRow : OpenClaim := { program := "ytemhbbpbmgpcaaagreat", sum := "8aa536e00acb2d7133a5bbad1b75e9a96dfb20253fc7f7a4a7d931ac992a8dd1", func := "loop.example/g00851/laws.FnExactShotAt", spec := "fnExactShotAt", apart := false }
def FnExactShotAtSaid : Prop := fnExactShotAtRow.holds Tryz.pinned (OpenSpec.ofChange fnExactShotAtSpec)

/-- ITS FALSE NEIGHBOUR: 'it returns false'. Refute it at one input. -/
def fnExactShotAtWrong : ChangeSpec := { name := "fnExactShotAt", fn := fun _ => fun
  | [d1, d2] => { results := [.lit (.bool false)], args := [d1, d2] }
  | _ => none }
def FnExactShotAtWrongFalsely : Prop := fnExactShotAtRow.holds Tryz.pinned (OpenSpec.ofChange fnExactShotAtWrong)

/-- 'laws.FnExactNewestShot': WHATEVER THE INPUT: true; the input reads as it did. -/
def fnExactNewestShotSpec : ChangeSpec := { name := "fnExactNewestShot", fn := fun _ => fun
  | [d] => { results := [.lit (.bool true)], args := [d] }
  | _ => none }
def fnExactNewestShotRow : OpenClaim := { program := "ytemhbbpbmgpcaaagreat", sum := "8aa536e00acb2d7133a5bbad1b75e9a96dfb20253fc7f7a4a7d931ac992a8dd1", func := "loop.example/g00851/laws.FnExactNewestShot", spec := "fnExactNewestShot", apart := false }
def FnExactNewestShotSaid : Prop := fnExactNewestShotRow.holds Tryz.pinned (OpenSpec.ofChange fnExactNewestShotSpec)

/-- ITS FALSE NEIGHBOUR: 'it returns false'. Refute it at one input. -/
def fnExactNewestShotWrong : ChangeSpec := { name := "fnExactNewestShot", fn := fun _ => fun
  | [d] => { results := [.lit (.bool false)], args := [d] }
  | _ => none }
def FnExactNewestShotWrongFalsely : Prop := fnExactNewestShotRow.holds Tryz.pinned (OpenSpec.ofChange fnExactNewestShotWrong)

/-- 'laws.FnExactFolded': WHATEVER THE INPUT: true; the input reads as it did. -/
def fnExactFoldedSpec : ChangeSpec := { name := "fnExactFolded", fn := fun _ => fun
  | [d1, d2] => { results := [.lit (.bool true)], args := [d1, d2] }
  | _ => none }
def fnExactFoldedRow : OpenClaim := { program := "ytemhbbpbmgpcaaagreat", sum := "8aa536e00acb2d7133a5bbad1b75e9a96dfb20253fc7f7a4a7d931ac992a8dd1", func := "loop.example/g00851/laws.FnExactFolded", spec := "fnExactFolded", inPlace := ["slices.overlaps[loop.example/g00851/impl.Pair]", "slices.overlaps[loop.example/g00851/impl.Job]"], unfollowed := true, recurses := true, apart := false }
def FnExactFoldedSaid : Prop := fnExactFoldedRow.holds Tryz.pinned (OpenSpec.ofChange fnExactFoldedSpec)

/-- ITS FALSE NEIGHBOUR: 'it returns false'. Refute it at one input. -/
def fnExactFoldedWrong : ChangeSpec := { name := "fnExactFolded", fn := fun _ => fun
  | [d1, d2] => { results := [.lit (.bool false)], args := [d1, d2] }
  | _ => none }
def FnExactFoldedWrongFalsely : Prop := fnExactFoldedRow.holds Tryz.pinned (OpenSpec.ofChange fnExactFoldedWrong)

/- THE SECOND FORM. 'bulk': how many values and letters a reading holds, each counted each time it is reached (what is shared counts as often as it is met; a slice's spare places count too). A statement '..UptoSaid' is the law's where the arguments, and the package variables that the reading takes, are together of bulk at most 1048576: NARROWER than '..Said'. Prove '..Said' where nothing that the law and all that it calls make is longer than what came in: it says more and counts as full. Else prove '..UptoSaid'. A law counts once. -/
mutual
def uptoBulk {H : Type} : DataW H → Nat
  | .lit (.string bytes) => bytes.length + 1
  | .lit _ => 1
  | .nil => 1
  | .ptr d => uptoBulk d + 1
  | .slice elems spare => uptoBulkAll elems + uptoBulkAll spare + 1
  | .agg parts => uptoBulkAll parts + 1
  | .iface _ d => uptoBulk d + 1
  | .map entries => uptoBulkEntries entries + 1
  | .held _ => 1
def uptoBulkAll {H : Type} : List (DataW H) → Nat
  | [] => 0
  | d :: r => uptoBulk d + uptoBulkAll r
def uptoBulkEntries {H : Type} : List (Lit × DataW H) → Nat
  | [] => 0
  | x :: r => uptoBulkEntry x + uptoBulkEntries r
def uptoBulkEntry {H : Type} : Lit × DataW H → Nat
  | (.string bytes, d) => bytes.length + uptoBulk d + 1
  | (_, d) => uptoBulk d + 1
 end
def uptoSmall : (H : Type) → List (DataW H) → Bool := fun _ ds => decide (uptoBulkAll ds ≤ 1048576)
def OpenSpec.upto (s : _root_.Go.ChangeSpec) : _root_.Go.OpenSpec := { _root_.Go.OpenSpec.ofChange s with cond := some uptoSmall }

/-- 'laws.FnExactShotWrote', WHERE WHAT IT READS IS OF BULK AT MOST 1048576: true; the input reads as it did. -/
def fnExactShotWroteUptoRow : OpenClaim := { program := "ytemhbbpbmgpcaaagreat", sum := "8aa536e00acb2d7133a5bbad1b75e9a96dfb20253fc7f7a4a7d931ac992a8dd1", func := "loop.example/g00851/laws.FnExactShotWrote", spec := "fnExactShotWrote", apart := false, narrowed := true }
def FnExactShotWroteUptoSaid : Prop := fnExactShotWroteUptoRow.holds Tryz.pinned (OpenSpec.upto fnExactShotWroteSpec)

/-- 'laws.FnExactShotAt', WHERE WHAT IT READS IS OF BULK AT MOST 1048576: true; the input reads as it did. -/
def fnExactShotAtUptoRow : OpenClaim := { program := "ytemhbbpbmgpcaaagreat", sum := "8aa536e00acb2d7133a5bbad1b75e9a96dfb20253fc7f7a4a7d931ac992a8dd1", func := "loop.example/g00851/laws.FnExactShotAt", spec := "fnExactShotAt", apart := false, narrowed := true }
def FnExactShotAtUptoSaid : Prop := fnExactShotAtUptoRow.holds Tryz.pinned (OpenSpec.upto fnExactShotAtSpec)

/-- 'laws.FnExactNewestShot', WHERE WHAT IT READS IS OF BULK AT MOST 1048576: true; the input reads as it did. -/
def fnExactNewestShotUptoRow : OpenClaim := { program := "ytemhbbpbmgpcaaagreat", sum := "8aa536e00acb2d7133a5bbad1b75e9a96dfb20253fc7f7a4a7d931ac992a8dd1", func := "loop.example/g00851/laws.FnExactNewestShot", spec := "fnExactNewestShot", apart := false, narrowed := true }
def FnExactNewestShotUptoSaid : Prop := fnExactNewestShotUptoRow.holds Tryz.pinned (OpenSpec.upto fnExactNewestShotSpec)

/-- 'laws.FnExactFolded', WHERE WHAT IT READS IS OF BULK AT MOST 1048576: true; the input reads as it did. -/
def fnExactFoldedUptoRow : OpenClaim := { program := "ytemhbbpbmgpcaaagreat", sum := "8aa536e00acb2d7133a5bbad1b75e9a96dfb20253fc7f7a4a7d931ac992a8dd1", func := "loop.example/g00851/laws.FnExactFolded", spec := "fnExactFolded", inPlace := ["slices.overlaps[loop.example/g00851/impl.Pair]", "slices.overlaps[loop.example/g00851/impl.Job]"], unfollowed := true, recurses := true, apart := false, narrowed := true }
def FnExactFoldedUptoSaid : Prop := fnExactFoldedUptoRow.holds Tryz.pinned (OpenSpec.upto fnExactFoldedSpec)

end Rows
end Go.Proofs.YtemhbbpbmgpcaaaGreat
