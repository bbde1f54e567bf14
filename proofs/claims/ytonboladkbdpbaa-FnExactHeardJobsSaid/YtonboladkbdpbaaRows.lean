/-
  No cell of these rows narrows 'for every input' (looked for: loops, veiled, ifaces, maps, wideKeys, modest, calm, conditions, laid).
  DERIVED. THE GIVEN ROWS OF THIS SEAT. 6 by the template 'for every input the law returns true; each argument reads behind the call as it read before'; 0 by the template 'total and deterministic' (their statements: YtonboladkbdpbaaTotals.lean).
  GIVEN WITH THE SEED: the statements are not yours to turn. If you find one false, say at which input.
  Laid BY PROGRAM, IN A SANDBOX (cutbox-rows.mjs): the forced cells as the released guide's own fill.sh prints them over the translation 59bf3dbf5295d2d9… (all of the seat's roots in one cut). By AI agents, Wed Nov 11 2026. No macro, syntax, notation, axiom, sorry.
-/
import Derived.Test.YtonboladkbdpbaaChecked
import GoSem.Claim
import GoSem.ClaimJoined
import GoSem.ClaimMapViews
import Derived.JoinedTies
import Derived.KernelRfl
namespace Go.Proofs.Ytonboladkbdpbaa
/- THE CELL 'sum', in the pinned program and in every row, IS THE sha256 OF THE DUMP (.gsa) THAT YtonboladkbdpbaaProg.lean LOADS. Nothing in Lean hashes anything: it is a label: what it is worth is what the hold of that sum in a sandbox is worth. -/
noncomputable def Try.pinned : Pinned := { name := "ytonboladkbdpbaa", sum := "59bf3dbf5295d2d93c3af636fa867aec8098fe12bd2bf178a986e563ce6d3b57", checked := Try.checked }
namespace Rows
def none {H : Type} : Left H := { results := [], args := [] }

/-- 'laws.FnExactFreeIn': WHATEVER THE INPUT: true; the input reads as it did. -/
def fnExactFreeInSpec : ChangeSpec := { name := "fnExactFreeIn", fn := fun _ => fun
  | [d1, d2] => { results := [.lit (.bool true)], args := [d1, d2] }
  | _ => none }
def fnExactFreeInRow : OpenClaim := { program := "ytonboladkbdpbaa", sum := "59bf3dbf5295d2d93c3af636fa867aec8098fe12bd2bf178a986e563ce6d3b57", func := "loop.example/g00851/laws.FnExactFreeIn", spec := "fnExactFreeIn", apart := false }
def FnExactFreeInSaid : Prop := fnExactFreeInRow.holds Try.pinned (OpenSpec.ofChange fnExactFreeInSpec)

/-- ITS FALSE NEIGHBOUR: 'it returns false'. Refute it at one input. -/
def fnExactFreeInWrong : ChangeSpec := { name := "fnExactFreeIn", fn := fun _ => fun
  | [d1, d2] => { results := [.lit (.bool false)], args := [d1, d2] }
  | _ => none }
def FnExactFreeInWrongFalsely : Prop := fnExactFreeInRow.holds Try.pinned (OpenSpec.ofChange fnExactFreeInWrong)

/-- 'laws.FnExactHoldsIn': WHATEVER THE INPUT: true; the input reads as it did. -/
def fnExactHoldsInSpec : ChangeSpec := { name := "fnExactHoldsIn", fn := fun _ => fun
  | [d1, d2, d3] => { results := [.lit (.bool true)], args := [d1, d2, d3] }
  | _ => none }
def fnExactHoldsInRow : OpenClaim := { program := "ytonboladkbdpbaa", sum := "59bf3dbf5295d2d93c3af636fa867aec8098fe12bd2bf178a986e563ce6d3b57", func := "loop.example/g00851/laws.FnExactHoldsIn", spec := "fnExactHoldsIn", apart := false }
def FnExactHoldsInSaid : Prop := fnExactHoldsInRow.holds Try.pinned (OpenSpec.ofChange fnExactHoldsInSpec)

/-- ITS FALSE NEIGHBOUR: 'it returns false'. Refute it at one input. -/
def fnExactHoldsInWrong : ChangeSpec := { name := "fnExactHoldsIn", fn := fun _ => fun
  | [d1, d2, d3] => { results := [.lit (.bool false)], args := [d1, d2, d3] }
  | _ => none }
def FnExactHoldsInWrongFalsely : Prop := fnExactHoldsInRow.holds Try.pinned (OpenSpec.ofChange fnExactHoldsInWrong)

/-- 'laws.FnExactDueCount': WHATEVER THE INPUT: true; the input reads as it did. -/
def fnExactDueCountSpec : ChangeSpec := { name := "fnExactDueCount", fn := fun _ => fun
  | [d1, d2] => { results := [.lit (.bool true)], args := [d1, d2] }
  | _ => none }
def fnExactDueCountRow : OpenClaim := { program := "ytonboladkbdpbaa", sum := "59bf3dbf5295d2d93c3af636fa867aec8098fe12bd2bf178a986e563ce6d3b57", func := "loop.example/g00851/laws.FnExactDueCount", spec := "fnExactDueCount", apart := false }
def FnExactDueCountSaid : Prop := fnExactDueCountRow.holds Try.pinned (OpenSpec.ofChange fnExactDueCountSpec)

/-- ITS FALSE NEIGHBOUR: 'it returns false'. Refute it at one input. -/
def fnExactDueCountWrong : ChangeSpec := { name := "fnExactDueCount", fn := fun _ => fun
  | [d1, d2] => { results := [.lit (.bool false)], args := [d1, d2] }
  | _ => none }
def FnExactDueCountWrongFalsely : Prop := fnExactDueCountRow.holds Try.pinned (OpenSpec.ofChange fnExactDueCountWrong)

/-- 'laws.FnExactNextFire': WHATEVER THE INPUT: true; the input reads as it did. -/
def fnExactNextFireSpec : ChangeSpec := { name := "fnExactNextFire", fn := fun _ => fun
  | [d1, d2] => { results := [.lit (.bool true)], args := [d1, d2] }
  | _ => none }
def fnExactNextFireRow : OpenClaim := { program := "ytonboladkbdpbaa", sum := "59bf3dbf5295d2d93c3af636fa867aec8098fe12bd2bf178a986e563ce6d3b57", func := "loop.example/g00851/laws.FnExactNextFire", spec := "fnExactNextFire", apart := false }
def FnExactNextFireSaid : Prop := fnExactNextFireRow.holds Try.pinned (OpenSpec.ofChange fnExactNextFireSpec)

/-- ITS FALSE NEIGHBOUR: 'it returns false'. Refute it at one input. -/
def fnExactNextFireWrong : ChangeSpec := { name := "fnExactNextFire", fn := fun _ => fun
  | [d1, d2] => { results := [.lit (.bool false)], args := [d1, d2] }
  | _ => none }
def FnExactNextFireWrongFalsely : Prop := fnExactNextFireRow.holds Try.pinned (OpenSpec.ofChange fnExactNextFireWrong)

/-- 'laws.FnExactHeardJobs': WHATEVER THE INPUT: true; the input reads as it did. -/
def fnExactHeardJobsSpec : ChangeSpec := { name := "fnExactHeardJobs", fn := fun _ => fun
  | [d1, d2] => { results := [.lit (.bool true)], args := [d1, d2] }
  | _ => none }
def fnExactHeardJobsRow : OpenClaim := { program := "ytonboladkbdpbaa", sum := "59bf3dbf5295d2d93c3af636fa867aec8098fe12bd2bf178a986e563ce6d3b57", func := "loop.example/g00851/laws.FnExactHeardJobs", spec := "fnExactHeardJobs", apart := false }
def FnExactHeardJobsSaid : Prop := fnExactHeardJobsRow.holds Try.pinned (OpenSpec.ofChange fnExactHeardJobsSpec)

/-- ITS FALSE NEIGHBOUR: 'it returns false'. Refute it at one input. -/
def fnExactHeardJobsWrong : ChangeSpec := { name := "fnExactHeardJobs", fn := fun _ => fun
  | [d1, d2] => { results := [.lit (.bool false)], args := [d1, d2] }
  | _ => none }
def FnExactHeardJobsWrongFalsely : Prop := fnExactHeardJobsRow.holds Try.pinned (OpenSpec.ofChange fnExactHeardJobsWrong)

/-- 'laws.FnExactSchedOk': WHATEVER THE INPUT: true; the input reads as it did. -/
def fnExactSchedOkSpec : ChangeSpec := { name := "fnExactSchedOk", fn := fun _ => fun
  | [d] => { results := [.lit (.bool true)], args := [d] }
  | _ => none }
def fnExactSchedOkRow : OpenClaim := { program := "ytonboladkbdpbaa", sum := "59bf3dbf5295d2d93c3af636fa867aec8098fe12bd2bf178a986e563ce6d3b57", func := "loop.example/g00851/laws.FnExactSchedOk", spec := "fnExactSchedOk", apart := false }
def FnExactSchedOkSaid : Prop := fnExactSchedOkRow.holds Try.pinned (OpenSpec.ofChange fnExactSchedOkSpec)

/-- ITS FALSE NEIGHBOUR: 'it returns false'. Refute it at one input. -/
def fnExactSchedOkWrong : ChangeSpec := { name := "fnExactSchedOk", fn := fun _ => fun
  | [d] => { results := [.lit (.bool false)], args := [d] }
  | _ => none }
def FnExactSchedOkWrongFalsely : Prop := fnExactSchedOkRow.holds Try.pinned (OpenSpec.ofChange fnExactSchedOkWrong)

/- THE SECOND FORM. 'bulk': how many values and letters a reading holds, each counted each time it is reached (what is shared counts as often as it is met; a slice's spare places count too). A statement '..UptoSaid' is the law's where the arguments, and the package variables that the reading takes, are together of bulk at most 1048576: NARROWER than '..Said'. Prove '..Said' where nothing that the law and all that it calls make is longer than what came in: it says more and counts as full. Else prove '..UptoSaid'. A law counts once. -/
mutual
def uptoBulk {H : Type} : DataW H → Nat
  | .lit (.string bytes) => bytes.length + 1
  | .lit _ => 1
  | .nil => 1
  | .ptr d => uptoBulk d + 1
  | .slice elems spare => uptoBulkAll elems + uptoBulkAll spare + 1
  | .agg parts => uptoBulkAll parts + 1
  | .iface _ d => uptoBulk d + 1
  | .map entries => uptoBulkEntries entries + 1
  | .held _ => 1
def uptoBulkAll {H : Type} : List (DataW H) → Nat
  | [] => 0
  | d :: r => uptoBulk d + uptoBulkAll r
def uptoBulkEntries {H : Type} : List (Lit × DataW H) → Nat
  | [] => 0
  | x :: r => uptoBulkEntry x + uptoBulkEntries r
def uptoBulkEntry {H : Type} : Lit × DataW H → Nat
  | (.string bytes, d) => bytes.length + uptoBulk d + 1
  | (_, d) => uptoBulk d + 1
 end
def uptoSmall : (H : Type) → List (DataW H) → Bool := fun _ ds => decide (uptoBulkAll ds ≤ 1048576)
def OpenSpec.upto (s : _root_.Go.ChangeSpec) : _root_.Go.OpenSpec := { _root_.Go.OpenSpec.ofChange s with cond := some uptoSmall }

/-- 'laws.FnExactFreeIn', WHERE WHAT IT READS IS OF BULK AT MOST 1048576: true; the input reads as it did. -/
def fnExactFreeInUptoRow : OpenClaim := { program := "ytonboladkbdpbaa", sum := "59bf3dbf5295d2d93c3af636fa867aec8098fe12bd2bf178a986e563ce6d3b57", func := "loop.example/g00851/laws.FnExactFreeIn", spec := "fnExactFreeIn", apart := false, narrowed := true }
def FnExactFreeInUptoSaid : Prop := fnExactFreeInUptoRow.holds Try.pinned (OpenSpec.upto fnExactFreeInSpec)

/-- 'laws.FnExactHoldsIn', WHERE WHAT IT READS IS OF BULK AT MOST 1048576: true; the input reads as it did. -/
def fnExactHoldsInUptoRow : OpenClaim := { program := "ytonboladkbdpbaa", sum := "59bf3dbf5295d2d93c3af636fa867aec8098fe12bd2bf178a986e563ce6d3b57", func := "loop.example/g00851/laws.FnExactHoldsIn", spec := "fnExactHoldsIn", apart := false, narrowed := true }
def FnExactHoldsInUptoSaid : Prop := fnExactHoldsInUptoRow.holds Try.pinned (OpenSpec.upto fnExactHoldsInSpec)

/-- 'laws.FnExactDueCount', WHERE WHAT IT READS IS OF BULK AT MOST 1048576: true; the input reads as it did. -/
def fnExactDueCountUptoRow : OpenClaim := { program := "ytonboladkbdpbaa", sum := "59bf3dbf5295d2d93c3af636fa867aec8098fe12bd2bf178a986e563ce6d3b57", func := "loop.example/g00851/laws.FnExactDueCount", spec := "fnExactDueCount", apart := false, narrowed := true }
def FnExactDueCountUptoSaid : Prop := fnExactDueCountUptoRow.holds Try.pinned (OpenSpec.upto fnExactDueCountSpec)

/-- 'laws.FnExactNextFire', WHERE WHAT IT READS IS OF BULK AT MOST 1048576: true; the input reads as it did. -/
def fnExactNextFireUptoRow : OpenClaim := { program := "ytonboladkbdpbaa", sum := "59bf3dbf5295d2d93c3af636fa867aec8098fe12bd2bf178a986e563ce6d3b57", func := "loop.example/g00851/laws.FnExactNextFire", spec := "fnExactNextFire", apart := false, narrowed := true }
def FnExactNextFireUptoSaid : Prop := fnExactNextFireUptoRow.holds Try.pinned (OpenSpec.upto fnExactNextFireSpec)

/-- 'laws.FnExactHeardJobs', WHERE WHAT IT READS IS OF BULK AT MOST 1048576: true; the input reads as it did. -/
def fnExactHeardJobsUptoRow : OpenClaim := { program := "ytonboladkbdpbaa", sum := "59bf3dbf5295d2d93c3af636fa867aec8098fe12bd2bf178a986e563ce6d3b57", func := "loop.example/g00851/laws.FnExactHeardJobs", spec := "fnExactHeardJobs", apart := false, narrowed := true }
def FnExactHeardJobsUptoSaid : Prop := fnExactHeardJobsUptoRow.holds Try.pinned (OpenSpec.upto fnExactHeardJobsSpec)

/-- 'laws.FnExactSchedOk', WHERE WHAT IT READS IS OF BULK AT MOST 1048576: true; the input reads as it did. -/
def fnExactSchedOkUptoRow : OpenClaim := { program := "ytonboladkbdpbaa", sum := "59bf3dbf5295d2d93c3af636fa867aec8098fe12bd2bf178a986e563ce6d3b57", func := "loop.example/g00851/laws.FnExactSchedOk", spec := "fnExactSchedOk", apart := false, narrowed := true }
def FnExactSchedOkUptoSaid : Prop := fnExactSchedOkUptoRow.holds Try.pinned (OpenSpec.upto fnExactSchedOkSpec)

end Rows
end Go.Proofs.Ytonboladkbdpbaa
