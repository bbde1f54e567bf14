/-
  No cell of these rows narrows 'for every input' (looked for: loops, veiled, ifaces, maps, wideKeys, modest, calm, conditions, laid).
  DERIVED. THE GIVEN ROWS OF THIS SEAT. 4 by the template 'for every input the law returns true; each argument reads behind the call as it read before'; 0 by the template 'total and deterministic' (their statements: YticiijpcdagbdaaGreatTotals.lean).
  GIVEN WITH THE SEED: the statements are not yours to turn. If you find one false, say at which input.
  Laid BY PROGRAM, IN A SANDBOX (cutbox-rows.mjs): the forced cells as the released guide's own fill.sh prints them over the translation e4af66d85f66267b… (all of the seat's roots in one cut). By AI agents, Wed Nov 11 2026. No macro, syntax, notation, axiom, sorry.
-/
import Derived.Test.YticiijpcdagbdaaGreatChecked
import GoSem.Claim
import GoSem.ClaimJoined
import GoSem.ClaimMapViews
import Derived.JoinedTies
import Derived.KernelRfl
namespace Go.Proofs.YticiijpcdagbdaaGreat
/- THE CELL 'sum', in the pinned program and in every row, IS THE sha256 OF THE DUMP (.gsa) THAT YticiijpcdagbdaaGreatProg.lean LOADS. Nothing in Lean hashes anything: it is a label: what it is worth is what the hold of that sum in a sandbox is worth. -/
noncomputable def Tryz.pinned : Pinned := { name := "yticiijpcdagbdaagreat", sum := "e4af66d85f66267b2e4a224fb12a882abbb827c7f717817dd9cf759e391e28a7", checked := Tryz.checked }
namespace Rows
def none {H : Type} : Left H := { results := [], args := [] }

/-- 'laws.FnExactWorldOk': WHATEVER THE INPUT: true; the input reads as it did. -/
def fnExactWorldOkSpec : ChangeSpec := { name := "fnExactWorldOk", fn := fun _ => fun
  | [d] => { results := [.lit (.bool true)], args := [d] }
  | _ => none }
def fnExactWorldOkRow : OpenClaim := { program := "yticiijpcdagbdaagreat", sum := "e4af66d85f66267b2e4a224fb12a882abbb827c7f717817dd9cf759e391e28a7", func := "loop.example/g00851/laws.FnExactWorldOk", spec := "fnExactWorldOk", unfollowed := true, recurses := true, apart := false }
def FnExactWorldOkSaid : Prop := fnExactWorldOkRow.holds Tryz.pinned (OpenSpec.ofChange fnExactWorldOkSpec)

/-- ITS FALSE NEIGHBOUR: 'it returns false'. Refute it at one input. -/
def fnExactWorldOkWrong : ChangeSpec := { name := "fnExactWorldOk", fn := fun _ => fun
  | [d] => { results := [.lit (.bool false)], args := [d] }
  | _ => none }
def FnExactWorldOkWrongFalsely : Prop := fnExactWorldOkRow.holds Tryz.pinned (OpenSpec.ofChange fnExactWorldOkWrong)

/-- 'laws.FnExactUpIn': WHATEVER THE INPUT: true; the input reads as it did. -/
def fnExactUpInSpec : ChangeSpec := { name := "fnExactUpIn", fn := fun _ => fun
  | [d1, d2] => { results := [.lit (.bool true)], args := [d1, d2] }
  | _ => none }
def fnExactUpInRow : OpenClaim := { program := "yticiijpcdagbdaagreat", sum := "e4af66d85f66267b2e4a224fb12a882abbb827c7f717817dd9cf759e391e28a7", func := "loop.example/g00851/laws.FnExactUpIn", spec := "fnExactUpIn", unfollowed := true, recurses := true, apart := false }
def FnExactUpInSaid : Prop := fnExactUpInRow.holds Tryz.pinned (OpenSpec.ofChange fnExactUpInSpec)

/-- ITS FALSE NEIGHBOUR: 'it returns false'. Refute it at one input. -/
def fnExactUpInWrong : ChangeSpec := { name := "fnExactUpIn", fn := fun _ => fun
  | [d1, d2] => { results := [.lit (.bool false)], args := [d1, d2] }
  | _ => none }
def FnExactUpInWrongFalsely : Prop := fnExactUpInRow.holds Tryz.pinned (OpenSpec.ofChange fnExactUpInWrong)

/-- 'laws.FnExactNowIn': WHATEVER THE INPUT: true; the input reads as it did. -/
def fnExactNowInSpec : ChangeSpec := { name := "fnExactNowIn", fn := fun _ => fun
  | [d1, d2] => { results := [.lit (.bool true)], args := [d1, d2] }
  | _ => none }
def fnExactNowInRow : OpenClaim := { program := "yticiijpcdagbdaagreat", sum := "e4af66d85f66267b2e4a224fb12a882abbb827c7f717817dd9cf759e391e28a7", func := "loop.example/g00851/laws.FnExactNowIn", spec := "fnExactNowIn", unfollowed := true, recurses := true, apart := false }
def FnExactNowInSaid : Prop := fnExactNowInRow.holds Tryz.pinned (OpenSpec.ofChange fnExactNowInSpec)

/-- ITS FALSE NEIGHBOUR: 'it returns false'. Refute it at one input. -/
def fnExactNowInWrong : ChangeSpec := { name := "fnExactNowIn", fn := fun _ => fun
  | [d1, d2] => { results := [.lit (.bool false)], args := [d1, d2] }
  | _ => none }
def FnExactNowInWrongFalsely : Prop := fnExactNowInRow.holds Tryz.pinned (OpenSpec.ofChange fnExactNowInWrong)

/-- 'laws.FnExactNewWorld': WHATEVER THE INPUT: true; the input reads as it did. -/
def fnExactNewWorldSpec : ChangeSpec := { name := "fnExactNewWorld", fn := fun _ => fun
  | [d1, d2] => { results := [.lit (.bool true)], args := [d1, d2] }
  | _ => none }
def fnExactNewWorldRow : OpenClaim := { program := "yticiijpcdagbdaagreat", sum := "e4af66d85f66267b2e4a224fb12a882abbb827c7f717817dd9cf759e391e28a7", func := "loop.example/g00851/laws.FnExactNewWorld", spec := "fnExactNewWorld", apart := false }
def FnExactNewWorldSaid : Prop := fnExactNewWorldRow.holds Tryz.pinned (OpenSpec.ofChange fnExactNewWorldSpec)

/-- ITS FALSE NEIGHBOUR: 'it returns false'. Refute it at one input. -/
def fnExactNewWorldWrong : ChangeSpec := { name := "fnExactNewWorld", fn := fun _ => fun
  | [d1, d2] => { results := [.lit (.bool false)], args := [d1, d2] }
  | _ => none }
def FnExactNewWorldWrongFalsely : Prop := fnExactNewWorldRow.holds Tryz.pinned (OpenSpec.ofChange fnExactNewWorldWrong)

/- THE SECOND FORM. 'bulk': how many values and letters a reading holds, each counted each time it is reached (what is shared counts as often as it is met; a slice's spare places count too). A statement '..UptoSaid' is the law's where the arguments, and the package variables that the reading takes, are together of bulk at most 1048576: NARROWER than '..Said'. Prove '..Said' where nothing that the law and all that it calls make is longer than what came in: it says more and counts as full. Else prove '..UptoSaid'. A law counts once. -/
mutual
def uptoBulk {H : Type} : DataW H → Nat
  | .lit (.string bytes) => bytes.length + 1
  | .lit _ => 1
  | .nil => 1
  | .ptr d => uptoBulk d + 1
  | .slice elems spare => uptoBulkAll elems + uptoBulkAll spare + 1
  | .agg parts => uptoBulkAll parts + 1
  | .iface _ d => uptoBulk d + 1
  | .map entries => uptoBulkEntries entries + 1
  | .held _ => 1
def uptoBulkAll {H : Type} : List (DataW H) → Nat
  | [] => 0
  | d :: r => uptoBulk d + uptoBulkAll r
def uptoBulkEntries {H : Type} : List (Lit × DataW H) → Nat
  | [] => 0
  | x :: r => uptoBulkEntry x + uptoBulkEntries r
def uptoBulkEntry {H : Type} : Lit × DataW H → Nat
  | (.string bytes, d) => bytes.length + uptoBulk d + 1
  | (_, d) => uptoBulk d + 1
 end
def uptoSmall : (H : Type) → List (DataW H) → Bool := fun _ ds => decide (uptoBulkAll ds ≤ 1048576)
def OpenSpec.upto (s : _root_.Go.ChangeSpec) : _root_.Go.OpenSpec := { _root_.Go.OpenSpec.ofChange s with cond := some uptoSmall }

/-- 'laws.FnExactWorldOk', WHERE WHAT IT READS IS OF BULK AT MOST 1048576: true; the input reads as it did. -/
def fnExactWorldOkUptoRow : OpenClaim := { program := "yticiijpcdagbdaagreat", sum := "e4af66d85f66267b2e4a224fb12a882abbb827c7f717817dd9cf759e391e28a7", func := "loop.example/g00851/laws.FnExactWorldOk", spec := "fnExactWorldOk", unfollowed := true, recurses := true, apart := false, narrowed := true }
def FnExactWorldOkUptoSaid : Prop := fnExactWorldOkUptoRow.holds Tryz.pinned (OpenSpec.upto fnExactWorldOkSpec)

/-- 'laws.FnExactUpIn', WHERE WHAT IT READS IS OF BULK AT MOST 1048576: true; the input reads as it did. -/
def fnExactUpInUptoRow : OpenClaim := { program := "yticiijpcdagbdaagreat", sum := "e4af66d85f66267b2e4a224fb12a882abbb827c7f717817dd9cf759e391e28a7", func := "loop.example/g00851/laws.FnExactUpIn", spec := "fnExactUpIn", unfollowed := true, recurses := true, apart := false, narrowed := true }
def FnExactUpInUptoSaid : Prop := fnExactUpInUptoRow.holds Tryz.pinned (OpenSpec.upto fnExactUpInSpec)

/-- 'laws.FnExactNowIn', WHERE WHAT IT READS IS OF BULK AT MOST 1048576: true; the input reads as it did. -/
def fnExactNowInUptoRow : OpenClaim := { program := "yticiijpcdagbdaagreat", sum := "e4af66d85f66267b2e4a224fb12a882abbb827c7f717817dd9cf759e391e28a7", func := "loop.example/g00851/laws.FnExactNowIn", spec := "fnExactNowIn", unfollowed := true, recurses := true, apart := false, narrowed := true }
def FnExactNowInUptoSaid : Prop := fnExactNowInUptoRow.holds Tryz.pinned (OpenSpec.upto fnExactNowInSpec)

/-- 'laws.FnExactNewWorld', WHERE WHAT IT READS IS OF BULK AT MOST 1048576: true; the input reads as it did. -/
def fnExactNewWorldUptoRow : OpenClaim := { program := "yticiijpcdagbdaagreat", sum := "e4af66d85f66267b2e4a224fb12a882abbb827c7f717817dd9cf759e391e28a7", func := "loop.example/g00851/laws.FnExactNewWorld", spec := "fnExactNewWorld", apart := false, narrowed := true }
def FnExactNewWorldUptoSaid : Prop := fnExactNewWorldUptoRow.holds Tryz.pinned (OpenSpec.upto fnExactNewWorldSpec)

end Rows
end Go.Proofs.YticiijpcdagbdaaGreat
