/-
  No cell of these rows narrows 'for every input' (looked for: loops, veiled, ifaces, maps, wideKeys, modest, calm, conditions, laid).
  DERIVED. THE GIVEN ROWS OF THIS SEAT. 4 by the template 'for every input the law returns true; each argument reads behind the call as it read before'; 0 by the template 'total and deterministic' (their statements: YtemfcogdjmjplaaGreatTotals.lean).
  GIVEN WITH THE SEED: the statements are not yours to turn. If you find one false, say at which input.
  Laid BY PROGRAM, IN A SANDBOX (cutbox-rows.mjs): the forced cells as the released guide's own fill.sh prints them over the translation d3931f6cadfb56c4… (all of the seat's roots in one cut). By AI agents, Wed Nov 11 2026. No macro, syntax, notation, axiom, sorry.
-/
import Derived.Test.YtemfcogdjmjplaaGreatChecked
import GoSem.Claim
import GoSem.ClaimJoined
import GoSem.ClaimMapViews
import Derived.JoinedTies
import Derived.KernelRfl
namespace Go.Proofs.YtemfcogdjmjplaaGreat
/- THE CELL 'sum', in the pinned program and in every row, IS THE sha256 OF THE DUMP (.gsa) THAT YtemfcogdjmjplaaGreatProg.lean LOADS. Nothing in Lean hashes anything: it is a label: what it is worth is what the hold of that sum in a sandbox is worth. -/
noncomputable def Tryz.pinned : Pinned := { name := "ytemfcogdjmjplaagreat", sum := "d3931f6cadfb56c45413a0f02247ecb755dd6cd6a15f72b4b866958395a2a5a0", checked := Tryz.checked }
namespace Rows
def none {H : Type} : Left H := { results := [], args := [] }

/-- 'laws.FnExactHeardFeed': WHATEVER THE INPUT: true; the input reads as it did. -/
def fnExactHeardFeedSpec : ChangeSpec := { name := "fnExactHeardFeed", fn := fun _ => fun
  | [d1, d2] => { results := [.lit (.bool true)], args := [d1, d2] }
  | _ => none }
def fnExactHeardFeedRow : OpenClaim := { program := "ytemfcogdjmjplaagreat", sum := "d3931f6cadfb56c45413a0f02247ecb755dd6cd6a15f72b4b866958395a2a5a0", func := "loop.example/g00851/laws.FnExactHeardFeed", spec := "fnExactHeardFeed", inPlace := ["slices.overlaps[loop.example/g00851/impl.Pair]", "slices.overlaps[loop.example/g00851/impl.Job]"], unfollowed := true, recurses := true, apart := false }
def FnExactHeardFeedSaid : Prop := fnExactHeardFeedRow.holds Tryz.pinned (OpenSpec.ofChange fnExactHeardFeedSpec)

/-- ITS FALSE NEIGHBOUR: 'it returns false'. Refute it at one input. -/
def fnExactHeardFeedWrong : ChangeSpec := { name := "fnExactHeardFeed", fn := fun _ => fun
  | [d1, d2] => { results := [.lit (.bool false)], args := [d1, d2] }
  | _ => none }
def FnExactHeardFeedWrongFalsely : Prop := fnExactHeardFeedRow.holds Tryz.pinned (OpenSpec.ofChange fnExactHeardFeedWrong)

/-- 'laws.FnReadAfter': WHATEVER THE INPUT: true; the input reads as it did. -/
def fnReadAfterSpec : ChangeSpec := { name := "fnReadAfter", fn := fun _ => fun
  | [d] => { results := [.lit (.bool true)], args := [d] }
  | _ => none }
def fnReadAfterRow : OpenClaim := { program := "ytemfcogdjmjplaagreat", sum := "d3931f6cadfb56c45413a0f02247ecb755dd6cd6a15f72b4b866958395a2a5a0", func := "loop.example/g00851/laws.FnReadAfter", spec := "fnReadAfter", unfollowed := true, recurses := true, apart := false }
def FnReadAfterSaid : Prop := fnReadAfterRow.holds Tryz.pinned (OpenSpec.ofChange fnReadAfterSpec)

/-- ITS FALSE NEIGHBOUR: 'it returns false'. Refute it at one input. -/
def fnReadAfterWrong : ChangeSpec := { name := "fnReadAfter", fn := fun _ => fun
  | [d] => { results := [.lit (.bool false)], args := [d] }
  | _ => none }
def FnReadAfterWrongFalsely : Prop := fnReadAfterRow.holds Tryz.pinned (OpenSpec.ofChange fnReadAfterWrong)

/-- 'laws.FnFeedTwice': WHATEVER THE INPUT: true; the input reads as it did. -/
def fnFeedTwiceSpec : ChangeSpec := { name := "fnFeedTwice", fn := fun _ => fun
  | [d] => { results := [.lit (.bool true)], args := [d] }
  | _ => none }
def fnFeedTwiceRow : OpenClaim := { program := "ytemfcogdjmjplaagreat", sum := "d3931f6cadfb56c45413a0f02247ecb755dd6cd6a15f72b4b866958395a2a5a0", func := "loop.example/g00851/laws.FnFeedTwice", spec := "fnFeedTwice", inPlace := ["slices.overlaps[loop.example/g00851/impl.Pair]", "slices.overlaps[loop.example/g00851/impl.Job]"], unfollowed := true, recurses := true, apart := false }
def FnFeedTwiceSaid : Prop := fnFeedTwiceRow.holds Tryz.pinned (OpenSpec.ofChange fnFeedTwiceSpec)

/-- ITS FALSE NEIGHBOUR: 'it returns false'. Refute it at one input. -/
def fnFeedTwiceWrong : ChangeSpec := { name := "fnFeedTwice", fn := fun _ => fun
  | [d] => { results := [.lit (.bool false)], args := [d] }
  | _ => none }
def FnFeedTwiceWrongFalsely : Prop := fnFeedTwiceRow.holds Tryz.pinned (OpenSpec.ofChange fnFeedTwiceWrong)

/-- 'laws.FnExactJobsOf': WHATEVER THE INPUT: true; the input reads as it did. -/
def fnExactJobsOfSpec : ChangeSpec := { name := "fnExactJobsOf", fn := fun _ => fun
  | [d] => { results := [.lit (.bool true)], args := [d] }
  | _ => none }
def fnExactJobsOfRow : OpenClaim := { program := "ytemfcogdjmjplaagreat", sum := "d3931f6cadfb56c45413a0f02247ecb755dd6cd6a15f72b4b866958395a2a5a0", func := "loop.example/g00851/laws.FnExactJobsOf", spec := "fnExactJobsOf", unfollowed := true, recurses := true, apart := false }
def FnExactJobsOfSaid : Prop := fnExactJobsOfRow.holds Tryz.pinned (OpenSpec.ofChange fnExactJobsOfSpec)

/-- ITS FALSE NEIGHBOUR: 'it returns false'. Refute it at one input. -/
def fnExactJobsOfWrong : ChangeSpec := { name := "fnExactJobsOf", fn := fun _ => fun
  | [d] => { results := [.lit (.bool false)], args := [d] }
  | _ => none }
def FnExactJobsOfWrongFalsely : Prop := fnExactJobsOfRow.holds Tryz.pinned (OpenSpec.ofChange fnExactJobsOfWrong)

/- THE SECOND FORM. 'bulk': how many values and letters a reading holds, each counted each time it is reached (what is shared counts as often as it is met; a slice's spare places count too). A statement '..UptoSaid' is the law's where the arguments, and the package variables that the reading takes, are together of bulk at most 1048576: NARROWER than '..Said'. Prove '..Said' where nothing that the law and all that it calls make is longer than what came in: it says more and counts as full. Else prove '..UptoSaid'. A law counts once. -/
mutual
def uptoBulk {H : Type} : DataW H → Nat
  | .lit (.string bytes) => bytes.length + 1
  | .lit _ => 1
  | .nil => 1
  | .ptr d => uptoBulk d + 1
  | .slice elems spare => uptoBulkAll elems + uptoBulkAll spare + 1
  | .agg parts => uptoBulkAll parts + 1
  | .iface _ d => uptoBulk d + 1
  | .map entries => uptoBulkEntries entries + 1
  | .held _ => 1
def uptoBulkAll {H : Type} : List (DataW H) → Nat
  | [] => 0
  | d :: r => uptoBulk d + uptoBulkAll r
def uptoBulkEntries {H : Type} : List (Lit × DataW H) → Nat
  | [] => 0
  | x :: r => uptoBulkEntry x + uptoBulkEntries r
def uptoBulkEntry {H : Type} : Lit × DataW H → Nat
  | (.string bytes, d) => bytes.length + uptoBulk d + 1
  | (_, d) => uptoBulk d + 1
 end
def uptoSmall : (H : Type) → List (DataW H) → Bool := fun _ ds => decide (uptoBulkAll ds ≤ 1048576)
def OpenSpec.upto (s : _root_.Go.ChangeSpec) : _root_.Go.OpenSpec := { _root_.Go.OpenSpec.ofChange s with cond := some uptoSmall }

/-- 'laws.FnExactHeardFeed', WHERE WHAT IT READS IS OF BULK AT MOST 1048576: true; the input reads as it did. -/
def fnExactHeardFeedUptoRow : OpenClaim := { program := "ytemfcogdjmjplaagreat", sum := "d3931f6cadfb56c45413a0f02247ecb755dd6cd6a15f72b4b866958395a2a5a0", func := "loop.example/g00851/laws.FnExactHeardFeed", spec := "fnExactHeardFeed", inPlace := ["slices.overlaps[loop.example/g00851/impl.Pair]", "slices.overlaps[loop.example/g00851/impl.Job]"], unfollowed := true, recurses := true, apart := false, narrowed := true }
def FnExactHeardFeedUptoSaid : Prop := fnExactHeardFeedUptoRow.holds Tryz.pinned (OpenSpec.upto fnExactHeardFeedSpec)

/-- 'laws.FnReadAfter', WHERE WHAT IT READS IS OF BULK AT MOST 1048576: true; the input reads as it did. -/
def fnReadAfterUptoRow : OpenClaim := { program := "ytemfcogdjmjplaagreat", sum := "d3931f6cadfb56c45413a0f02247ecb755dd6cd6a15f72b4b866958395a2a5a0", func := "loop.example/g00851/laws.FnReadAfter", spec := "fnReadAfter", unfollowed := true, recurses := true, apart := false, narrowed := true }
def FnReadAfterUptoSaid : Prop := fnReadAfterUptoRow.holds Tryz.pinned (OpenSpec.upto fnReadAfterSpec)

/-- 'laws.FnFeedTwice', WHERE WHAT IT READS IS OF BULK AT MOST 1048576: true; the input reads as it did. -/
def fnFeedTwiceUptoRow : OpenClaim := { program := "ytemfcogdjmjplaagreat", sum := "d3931f6cadfb56c45413a0f02247ecb755dd6cd6a15f72b4b866958395a2a5a0", func := "loop.example/g00851/laws.FnFeedTwice", spec := "fnFeedTwice", inPlace := ["slices.overlaps[loop.example/g00851/impl.Pair]", "slices.overlaps[loop.example/g00851/impl.Job]"], unfollowed := true, recurses := true, apart := false, narrowed := true }
def FnFeedTwiceUptoSaid : Prop := fnFeedTwiceUptoRow.holds Tryz.pinned (OpenSpec.upto fnFeedTwiceSpec)

/-- 'laws.FnExactJobsOf', WHERE WHAT IT READS IS OF BULK AT MOST 1048576: true; the input reads as it did. -/
def fnExactJobsOfUptoRow : OpenClaim := { program := "ytemfcogdjmjplaagreat", sum := "d3931f6cadfb56c45413a0f02247ecb755dd6cd6a15f72b4b866958395a2a5a0", func := "loop.example/g00851/laws.FnExactJobsOf", spec := "fnExactJobsOf", unfollowed := true, recurses := true, apart := false, narrowed := true }
def FnExactJobsOfUptoSaid : Prop := fnExactJobsOfUptoRow.holds Tryz.pinned (OpenSpec.upto fnExactJobsOfSpec)

end Rows
end Go.Proofs.YtemfcogdjmjplaaGreat
