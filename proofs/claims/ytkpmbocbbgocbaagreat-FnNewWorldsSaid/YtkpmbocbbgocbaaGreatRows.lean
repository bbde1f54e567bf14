/-
  No cell of these rows narrows 'for every input' (looked for: loops, veiled, ifaces, maps, wideKeys, modest, calm, conditions, laid).
  DERIVED. THE GIVEN ROWS OF THIS SEAT. 5 by the template 'for every input the law returns true; each argument reads behind the call as it read before'; 0 by the template 'total and deterministic' (their statements: YtkpmbocbbgocbaaGreatTotals.lean).
  GIVEN WITH THE SEED: the statements are not yours to turn. If you find one false, say at which input.
  Laid BY PROGRAM, IN A SANDBOX (cutbox-rows.mjs): the forced cells as the released guide's own fill.sh prints them over the translation 728b0b21c32d346e… (all of the seat's roots in one cut). By AI agents, Wed Nov 11 2026. No macro, syntax, notation, axiom, sorry.
-/
import Derived.Test.YtkpmbocbbgocbaaGreatChecked
import GoSem.Claim
import GoSem.ClaimJoined
import GoSem.ClaimMapViews
import Derived.JoinedTies
import Derived.KernelRfl
namespace Go.Proofs.YtkpmbocbbgocbaaGreat
/- THE CELL 'sum', in the pinned program and in every row, IS THE sha256 OF THE DUMP (.gsa) THAT YtkpmbocbbgocbaaGreatProg.lean LOADS. Nothing in Lean hashes anything: it is a label: what it is worth is what the hold of that sum in a sandbox is worth. -/
noncomputable def Tryz.pinned : Pinned := { name := "ytkpmbocbbgocbaagreat", sum := "728b0b21c32d346e0d985d5842447860c982992ffcdd382fdfe1dc40ff0a197b", checked := Tryz.checked }
namespace Rows
def none {H : Type} : Left H := { results := [], args := [] }

/-- 'laws.FnExactSameWorld': WHATEVER THE INPUT: true; the input reads as it did. -/
def fnExactSameWorldSpec : ChangeSpec := { name := "fnExactSameWorld", fn := fun _ => fun
  | [d1, d2] => { results := [.lit (.bool true)], args := [d1, d2] }
  | _ => none }
def fnExactSameWorldRow : OpenClaim := { program := "ytkpmbocbbgocbaagreat", sum := "728b0b21c32d346e0d985d5842447860c982992ffcdd382fdfe1dc40ff0a197b", func := "loop.example/g00851/laws.FnExactSameWorld", spec := "fnExactSameWorld", unfollowed := true, recurses := true, apart := false }
def FnExactSameWorldSaid : Prop := fnExactSameWorldRow.holds Tryz.pinned (OpenSpec.ofChange fnExactSameWorldSpec)

/-- ITS FALSE NEIGHBOUR: 'it returns false'. Refute it at one input. -/
def fnExactSameWorldWrong : ChangeSpec := { name := "fnExactSameWorld", fn := fun _ => fun
  | [d1, d2] => { results := [.lit (.bool false)], args := [d1, d2] }
  | _ => none }
def FnExactSameWorldWrongFalsely : Prop := fnExactSameWorldRow.holds Tryz.pinned (OpenSpec.ofChange fnExactSameWorldWrong)

/-- 'laws.FnExactDigestOf': WHATEVER THE INPUT: true; the input reads as it did. -/
def fnExactDigestOfSpec : ChangeSpec := { name := "fnExactDigestOf", fn := fun _ => fun
  | [d] => { results := [.lit (.bool true)], args := [d] }
  | _ => none }
def fnExactDigestOfRow : OpenClaim := { program := "ytkpmbocbbgocbaagreat", sum := "728b0b21c32d346e0d985d5842447860c982992ffcdd382fdfe1dc40ff0a197b", func := "loop.example/g00851/laws.FnExactDigestOf", spec := "fnExactDigestOf", unfollowed := true, recurses := true, apart := false }
def FnExactDigestOfSaid : Prop := fnExactDigestOfRow.holds Tryz.pinned (OpenSpec.ofChange fnExactDigestOfSpec)

/-- ITS FALSE NEIGHBOUR: 'it returns false'. Refute it at one input. -/
def fnExactDigestOfWrong : ChangeSpec := { name := "fnExactDigestOf", fn := fun _ => fun
  | [d] => { results := [.lit (.bool false)], args := [d] }
  | _ => none }
def FnExactDigestOfWrongFalsely : Prop := fnExactDigestOfRow.holds Tryz.pinned (OpenSpec.ofChange fnExactDigestOfWrong)

/-- 'laws.FnExactNumbersOf': WHATEVER THE INPUT: true; the input reads as it did. -/
def fnExactNumbersOfSpec : ChangeSpec := { name := "fnExactNumbersOf", fn := fun _ => fun
  | [d] => { results := [.lit (.bool true)], args := [d] }
  | _ => none }
def fnExactNumbersOfRow : OpenClaim := { program := "ytkpmbocbbgocbaagreat", sum := "728b0b21c32d346e0d985d5842447860c982992ffcdd382fdfe1dc40ff0a197b", func := "loop.example/g00851/laws.FnExactNumbersOf", spec := "fnExactNumbersOf", unfollowed := true, recurses := true, apart := false }
def FnExactNumbersOfSaid : Prop := fnExactNumbersOfRow.holds Tryz.pinned (OpenSpec.ofChange fnExactNumbersOfSpec)

/-- ITS FALSE NEIGHBOUR: 'it returns false'. Refute it at one input. -/
def fnExactNumbersOfWrong : ChangeSpec := { name := "fnExactNumbersOf", fn := fun _ => fun
  | [d] => { results := [.lit (.bool false)], args := [d] }
  | _ => none }
def FnExactNumbersOfWrongFalsely : Prop := fnExactNumbersOfRow.holds Tryz.pinned (OpenSpec.ofChange fnExactNumbersOfWrong)

/-- 'laws.FnNewWorlds': WHATEVER THE INPUT: true; the input reads as it did. -/
def fnNewWorldsSpec : ChangeSpec := { name := "fnNewWorlds", fn := fun _ => fun
  | [d] => { results := [.lit (.bool true)], args := [d] }
  | _ => none }
def fnNewWorldsRow : OpenClaim := { program := "ytkpmbocbbgocbaagreat", sum := "728b0b21c32d346e0d985d5842447860c982992ffcdd382fdfe1dc40ff0a197b", func := "loop.example/g00851/laws.FnNewWorlds", spec := "fnNewWorlds", unfollowed := true, recurses := true, apart := false }
def FnNewWorldsSaid : Prop := fnNewWorldsRow.holds Tryz.pinned (OpenSpec.ofChange fnNewWorldsSpec)

/-- ITS FALSE NEIGHBOUR: 'it returns false'. Refute it at one input. -/
def fnNewWorldsWrong : ChangeSpec := { name := "fnNewWorlds", fn := fun _ => fun
  | [d] => { results := [.lit (.bool false)], args := [d] }
  | _ => none }
def FnNewWorldsWrongFalsely : Prop := fnNewWorldsRow.holds Tryz.pinned (OpenSpec.ofChange fnNewWorldsWrong)

/-- 'laws.FnExactNewWorld': WHATEVER THE INPUT: true; the input reads as it did. -/
def fnExactNewWorldSpec : ChangeSpec := { name := "fnExactNewWorld", fn := fun _ => fun
  | [d1, d2] => { results := [.lit (.bool true)], args := [d1, d2] }
  | _ => none }
def fnExactNewWorldRow : OpenClaim := { program := "ytkpmbocbbgocbaagreat", sum := "728b0b21c32d346e0d985d5842447860c982992ffcdd382fdfe1dc40ff0a197b", func := "loop.example/g00851/laws.FnExactNewWorld", spec := "fnExactNewWorld", apart := false }
def FnExactNewWorldSaid : Prop := fnExactNewWorldRow.holds Tryz.pinned (OpenSpec.ofChange fnExactNewWorldSpec)

/-- ITS FALSE NEIGHBOUR: 'it returns false'. Refute it at one input. -/
def fnExactNewWorldWrong : ChangeSpec := { name := "fnExactNewWorld", fn := fun _ => fun
  | [d1, d2] => { results := [.lit (.bool false)], args := [d1, d2] }
  | _ => none }
def FnExactNewWorldWrongFalsely : Prop := fnExactNewWorldRow.holds Tryz.pinned (OpenSpec.ofChange fnExactNewWorldWrong)

/- THE SECOND FORM. 'bulk': how many values and letters a reading holds, each counted each time it is reached (what is shared counts as often as it is met; a slice's spare places count too). A statement '..UptoSaid' is the law's where the arguments, and the package variables that the reading takes, are together of bulk at most 1048576: NARROWER than '..Said'. Prove '..Said' where nothing that the law and all that it calls make is longer than what came in: it says more and counts as full. Else prove '..UptoSaid'. A law counts once. -/
mutual
def uptoBulk {H : Type} : DataW H → Nat
  | .lit (.string bytes) => bytes.length + 1
  | .lit _ => 1
  | .nil => 1
  | .ptr d => uptoBulk d + 1
  | .slice elems spare => uptoBulkAll elems + uptoBulkAll spare + 1
  | .agg parts => uptoBulkAll parts + 1
  | .iface _ d => uptoBulk d + 1
  | .map entries => uptoBulkEntries entries + 1
  | .held _ => 1
def uptoBulkAll {H : Type} : List (DataW H) → Nat
  | [] => 0
  | d :: r => uptoBulk d + uptoBulkAll r
def uptoBulkEntries {H : Type} : List (Lit × DataW H) → Nat
  | [] => 0
  | x :: r => uptoBulkEntry x + uptoBulkEntries r
def uptoBulkEntry {H : Type} : Lit × DataW H → Nat
  | (.string bytes, d) => bytes.length + uptoBulk d + 1
  | (_, d) => uptoBulk d + 1
 end
def uptoSmall : (H : Type) → List (DataW H) → Bool := fun _ ds => decide (uptoBulkAll ds ≤ 1048576)
def OpenSpec.upto (s : _root_.Go.ChangeSpec) : _root_.Go.OpenSpec := { _root_.Go.OpenSpec.ofChange s with cond := some uptoSmall }

/-- 'laws.FnExactSameWorld', WHERE WHAT IT READS IS OF BULK AT MOST 1048576: true; the input reads as it did. -/
def fnExactSameWorldUptoRow : OpenClaim := { program := "ytkpmbocbbgocbaagreat", sum := "728b0b21c32d346e0d985d5842447860c982992ffcdd382fdfe1dc40ff0a197b", func := "loop.example/g00851/laws.FnExactSameWorld", spec := "fnExactSameWorld", unfollowed := true, recurses := true, apart := false, narrowed := true }
def FnExactSameWorldUptoSaid : Prop := fnExactSameWorldUptoRow.holds Tryz.pinned (OpenSpec.upto fnExactSameWorldSpec)

/-- 'laws.FnExactDigestOf', WHERE WHAT IT READS IS OF BULK AT MOST 1048576: true; the input reads as it did. -/
def fnExactDigestOfUptoRow : OpenClaim := { program := "ytkpmbocbbgocbaagreat", sum := "728b0b21c32d346e0d985d5842447860c982992ffcdd382fdfe1dc40ff0a197b", func := "loop.example/g00851/laws.FnExactDigestOf", spec := "fnExactDigestOf", unfollowed := true, recurses := true, apart := false, narrowed := true }
def FnExactDigestOfUptoSaid : Prop := fnExactDigestOfUptoRow.holds Tryz.pinned (OpenSpec.upto fnExactDigestOfSpec)

/-- 'laws.FnExactNumbersOf', WHERE WHAT IT READS IS OF BULK AT MOST 1048576: true; the input reads as it did. -/
def fnExactNumbersOfUptoRow : OpenClaim := { program := "ytkpmbocbbgocbaagreat", sum := "728b0b21c32d346e0d985d5842447860c982992ffcdd382fdfe1dc40ff0a197b", func := "loop.example/g00851/laws.FnExactNumbersOf", spec := "fnExactNumbersOf", unfollowed := true, recurses := true, apart := false, narrowed := true }
def FnExactNumbersOfUptoSaid : Prop := fnExactNumbersOfUptoRow.holds Tryz.pinned (OpenSpec.upto fnExactNumbersOfSpec)

/-- 'laws.FnNewWorlds', WHERE WHAT IT READS IS OF BULK AT MOST 1048576: true; the input reads as it did. -/
def fnNewWorldsUptoRow : OpenClaim := { program := "ytkpmbocbbgocbaagreat", sum := "728b0b21c32d346e0d985d5842447860c982992ffcdd382fdfe1dc40ff0a197b", func := "loop.example/g00851/laws.FnNewWorlds", spec := "fnNewWorlds", unfollowed := true, recurses := true, apart := false, narrowed := true }
def FnNewWorldsUptoSaid : Prop := fnNewWorldsUptoRow.holds Tryz.pinned (OpenSpec.upto fnNewWorldsSpec)

/-- 'laws.FnExactNewWorld', WHERE WHAT IT READS IS OF BULK AT MOST 1048576: true; the input reads as it did. -/
def fnExactNewWorldUptoRow : OpenClaim := { program := "ytkpmbocbbgocbaagreat", sum := "728b0b21c32d346e0d985d5842447860c982992ffcdd382fdfe1dc40ff0a197b", func := "loop.example/g00851/laws.FnExactNewWorld", spec := "fnExactNewWorld", apart := false, narrowed := true }
def FnExactNewWorldUptoSaid : Prop := fnExactNewWorldUptoRow.holds Tryz.pinned (OpenSpec.upto fnExactNewWorldSpec)

end Rows
end Go.Proofs.YtkpmbocbbgocbaaGreat
