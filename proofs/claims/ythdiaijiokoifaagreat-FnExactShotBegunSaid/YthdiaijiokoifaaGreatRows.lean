/-
  No cell of these rows narrows 'for every input' (looked for: loops, veiled, ifaces, maps, wideKeys, modest, calm, conditions, laid).
  DERIVED. THE GIVEN ROWS OF THIS SEAT. 5 by the template 'for every input the law returns true; each argument reads behind the call as it read before'; 0 by the template 'total and deterministic' (their statements: YthdiaijiokoifaaGreatTotals.lean).
  GIVEN WITH THE SEED: the statements are not yours to turn. If you find one false, say at which input.
  Laid BY PROGRAM, IN A SANDBOX (cutbox-rows.mjs): the forced cells as the released guide's own fill.sh prints them over the translation 59dd0e3f2aafdec2… (all of the seat's roots in one cut). By AI agents, Wed Nov 11 2026. No macro, syntax, notation, axiom, sorry.
-/
import Derived.Test.YthdiaijiokoifaaGreatChecked
import GoSem.Claim
import GoSem.ClaimJoined
import GoSem.ClaimMapViews
import Derived.JoinedTies
import Derived.KernelRfl
namespace Go.Proofs.YthdiaijiokoifaaGreat
/- THE CELL 'sum', in the pinned program and in every row, IS THE sha256 OF THE DUMP (.gsa) THAT YthdiaijiokoifaaGreatProg.lean LOADS. Nothing in Lean hashes anything: it is a label: what it is worth is what the hold of that sum in a sandbox is worth. -/
noncomputable def Tryz.pinned : Pinned := { name := "ythdiaijiokoifaagreat", sum := "59dd0e3f2aafdec2cf1708b1b8208bc59537eaa964d0e66b169968ef330b062f", checked := Tryz.checked }
namespace Rows
def none {H : Type} : Left H := { results := [], args := [] }

/-- 'laws.FnExactFolded': WHATEVER THE INPUT: true; the input reads as it did. -/
def fnExactFoldedSpec : ChangeSpec := { name := "fnExactFolded", fn := fun _ => fun
  | [d1, d2] => { results := [.lit (.bool true)], args := [d1, d2] }
  | _ => none }
def fnExactFoldedRow : OpenClaim := { program := "ythdiaijiokoifaagreat", sum := "59dd0e3f2aafdec2cf1708b1b8208bc59537eaa964d0e66b169968ef330b062f", func := "loop.example/g00851/laws.FnExactFolded", spec := "fnExactFolded", inPlace := ["slices.overlaps[loop.example/g00851/impl.Pair]", "slices.overlaps[loop.example/g00851/impl.Job]"], unfollowed := true, recurses := true, apart := false }
def FnExactFoldedSaid : Prop := fnExactFoldedRow.holds Tryz.pinned (OpenSpec.ofChange fnExactFoldedSpec)

/-- ITS FALSE NEIGHBOUR: 'it returns false'. Refute it at one input. -/
def fnExactFoldedWrong : ChangeSpec := { name := "fnExactFolded", fn := fun _ => fun
  | [d1, d2] => { results := [.lit (.bool false)], args := [d1, d2] }
  | _ => none }
def FnExactFoldedWrongFalsely : Prop := fnExactFoldedRow.holds Tryz.pinned (OpenSpec.ofChange fnExactFoldedWrong)

/-- 'laws.FnExactLiesIn': WHATEVER THE INPUT: true; the input reads as it did. -/
def fnExactLiesInSpec : ChangeSpec := { name := "fnExactLiesIn", fn := fun _ => fun
  | [d] => { results := [.lit (.bool true)], args := [d] }
  | _ => none }
def fnExactLiesInRow : OpenClaim := { program := "ythdiaijiokoifaagreat", sum := "59dd0e3f2aafdec2cf1708b1b8208bc59537eaa964d0e66b169968ef330b062f", func := "loop.example/g00851/laws.FnExactLiesIn", spec := "fnExactLiesIn", apart := false }
def FnExactLiesInSaid : Prop := fnExactLiesInRow.holds Tryz.pinned (OpenSpec.ofChange fnExactLiesInSpec)

/-- ITS FALSE NEIGHBOUR: 'it returns false'. Refute it at one input. -/
def fnExactLiesInWrong : ChangeSpec := { name := "fnExactLiesIn", fn := fun _ => fun
  | [d] => { results := [.lit (.bool false)], args := [d] }
  | _ => none }
def FnExactLiesInWrongFalsely : Prop := fnExactLiesInRow.holds Tryz.pinned (OpenSpec.ofChange fnExactLiesInWrong)

/-- 'laws.FnExactRisenStore': WHATEVER THE INPUT: true; the input reads as it did. -/
def fnExactRisenStoreSpec : ChangeSpec := { name := "fnExactRisenStore", fn := fun _ => fun
  | [d] => { results := [.lit (.bool true)], args := [d] }
  | _ => none }
def fnExactRisenStoreRow : OpenClaim := { program := "ythdiaijiokoifaagreat", sum := "59dd0e3f2aafdec2cf1708b1b8208bc59537eaa964d0e66b169968ef330b062f", func := "loop.example/g00851/laws.FnExactRisenStore", spec := "fnExactRisenStore", apart := false }
def FnExactRisenStoreSaid : Prop := fnExactRisenStoreRow.holds Tryz.pinned (OpenSpec.ofChange fnExactRisenStoreSpec)

/-- ITS FALSE NEIGHBOUR: 'it returns false'. Refute it at one input. -/
def fnExactRisenStoreWrong : ChangeSpec := { name := "fnExactRisenStore", fn := fun _ => fun
  | [d] => { results := [.lit (.bool false)], args := [d] }
  | _ => none }
def FnExactRisenStoreWrongFalsely : Prop := fnExactRisenStoreRow.holds Tryz.pinned (OpenSpec.ofChange fnExactRisenStoreWrong)

/-- 'laws.FnExactShotBegun': WHATEVER THE INPUT: true; the input reads as it did. -/
def fnExactShotBegunSpec : ChangeSpec := { name := "fnExactShotBegun", fn := fun _ => fun
  | [d] => { results := [.lit (.bool true)], args := [d] }
  | _ => none }
def fnExactShotBegunRow : OpenClaim := { program := "ythdiaijiokoifaagreat", sum := "59dd0e3f2aafdec2cf1708b1b8208bc59537eaa964d0e66b169968ef330b062f", func := "loop.example/g00851/laws.FnExactShotBegun", spec := "fnExactShotBegun", apart := false }
def FnExactShotBegunSaid : Prop := fnExactShotBegunRow.holds Tryz.pinned (OpenSpec.ofChange fnExactShotBegunSpec)

/-- ITS FALSE NEIGHBOUR: 'it returns false'. Refute it at one input. -/
def fnExactShotBegunWrong : ChangeSpec := { name := "fnExactShotBegun", fn := fun _ => fun
  | [d] => { results := [.lit (.bool false)], args := [d] }
  | _ => none }
def FnExactShotBegunWrongFalsely : Prop := fnExactShotBegunRow.holds Tryz.pinned (OpenSpec.ofChange fnExactShotBegunWrong)

/-- 'laws.FnExactHeardFeed': WHATEVER THE INPUT: true; the input reads as it did. -/
def fnExactHeardFeedSpec : ChangeSpec := { name := "fnExactHeardFeed", fn := fun _ => fun
  | [d1, d2] => { results := [.lit (.bool true)], args := [d1, d2] }
  | _ => none }
def fnExactHeardFeedRow : OpenClaim := { program := "ythdiaijiokoifaagreat", sum := "59dd0e3f2aafdec2cf1708b1b8208bc59537eaa964d0e66b169968ef330b062f", func := "loop.example/g00851/laws.FnExactHeardFeed", spec := "fnExactHeardFeed", inPlace := ["slices.overlaps[loop.example/g00851/impl.Pair]", "slices.overlaps[loop.example/g00851/impl.Job]"], unfollowed := true, recurses := true, apart := false }
def FnExactHeardFeedSaid : Prop := fnExactHeardFeedRow.holds Tryz.pinned (OpenSpec.ofChange fnExactHeardFeedSpec)

/-- ITS FALSE NEIGHBOUR: 'it returns false'. Refute it at one input. -/
def fnExactHeardFeedWrong : ChangeSpec := { name := "fnExactHeardFeed", fn := fun _ => fun
  | [d1, d2] => { results := [.lit (.bool false)], args := [d1, d2] }
  | _ => none }
def FnExactHeardFeedWrongFalsely : Prop := fnExactHeardFeedRow.holds Tryz.pinned (OpenSpec.ofChange fnExactHeardFeedWrong)

/- THE SECOND FORM. 'bulk': how many values and letters a reading holds, each counted each time it is reached (what is shared counts as often as it is met; a slice's spare places count too). A statement '..UptoSaid' is the law's where the arguments, and the package variables that the reading takes, are together of bulk at most 1048576: NARROWER than '..Said'. Prove '..Said' where nothing that the law and all that it calls make is longer than what came in: it says more and counts as full. Else prove '..UptoSaid'. A law counts once. -/
mutual
def uptoBulk {H : Type} : DataW H → Nat
  | .lit (.string bytes) => bytes.length + 1
  | .lit _ => 1
  | .nil => 1
  | .ptr d => uptoBulk d + 1
  | .slice elems spare => uptoBulkAll elems + uptoBulkAll spare + 1
  | .agg parts => uptoBulkAll parts + 1
  | .iface _ d => uptoBulk d + 1
  | .map entries => uptoBulkEntries entries + 1
  | .held _ => 1
def uptoBulkAll {H : Type} : List (DataW H) → Nat
  | [] => 0
  | d :: r => uptoBulk d + uptoBulkAll r
def uptoBulkEntries {H : Type} : List (Lit × DataW H) → Nat
  | [] => 0
  | x :: r => uptoBulkEntry x + uptoBulkEntries r
def uptoBulkEntry {H : Type} : Lit × DataW H → Nat
  | (.string bytes, d) => bytes.length + uptoBulk d + 1
  | (_, d) => uptoBulk d + 1
 end
def uptoSmall : (H : Type) → List (DataW H) → Bool := fun _ ds => decide (uptoBulkAll ds ≤ 1048576)
def OpenSpec.upto (s : _root_.Go.ChangeSpec) : _root_.Go.OpenSpec := { _root_.Go.OpenSpec.ofChange s with cond := some uptoSmall }

/-- 'laws.FnExactFolded', WHERE WHAT IT READS IS OF BULK AT MOST 1048576: true; the input reads as it did. -/
def fnExactFoldedUptoRow : OpenClaim := { program := "ythdiaijiokoifaagreat", sum := "59dd0e3f2aafdec2cf1708b1b8208bc59537eaa964d0e66b169968ef330b062f", func := "loop.example/g00851/laws.FnExactFolded", spec := "fnExactFolded", inPlace := ["slices.overlaps[loop.example/g00851/impl.Pair]", "slices.overlaps[loop.example/g00851/impl.Job]"], unfollowed := true, recurses := true, apart := false, narrowed := true }
def FnExactFoldedUptoSaid : Prop := fnExactFoldedUptoRow.holds Tryz.pinned (OpenSpec.upto fnExactFoldedSpec)

/-- 'laws.FnExactLiesIn', WHERE WHAT IT READS IS OF BULK AT MOST 1048576: true; the input reads as it did. -/
def fnExactLiesInUptoRow : OpenClaim := { program := "ythdiaijiokoifaagreat", sum := "59dd0e3f2aafdec2cf1708b1b8208bc59537eaa964d0e66b169968ef330b062f", func := "loop.example/g00851/laws.FnExactLiesIn", spec := "fnExactLiesIn", apart := false, narrowed := true }
def FnExactLiesInUptoSaid : Prop := fnExactLiesInUptoRow.holds Tryz.pinned (OpenSpec.upto fnExactLiesInSpec)

/-- 'laws.FnExactRisenStore', WHERE WHAT IT READS IS OF BULK AT MOST 1048576: true; the input reads as it did. -/
def fnExactRisenStoreUptoRow : OpenClaim := { program := "ythdiaijiokoifaagreat", sum := "59dd0e3f2aafdec2cf1708b1b8208bc59537eaa964d0e66b169968ef330b062f", func := "loop.example/g00851/laws.FnExactRisenStore", spec := "fnExactRisenStore", apart := false, narrowed := true }
def FnExactRisenStoreUptoSaid : Prop := fnExactRisenStoreUptoRow.holds Tryz.pinned (OpenSpec.upto fnExactRisenStoreSpec)

/-- 'laws.FnExactShotBegun', WHERE WHAT IT READS IS OF BULK AT MOST 1048576: true; the input reads as it did. -/
def fnExactShotBegunUptoRow : OpenClaim := { program := "ythdiaijiokoifaagreat", sum := "59dd0e3f2aafdec2cf1708b1b8208bc59537eaa964d0e66b169968ef330b062f", func := "loop.example/g00851/laws.FnExactShotBegun", spec := "fnExactShotBegun", apart := false, narrowed := true }
def FnExactShotBegunUptoSaid : Prop := fnExactShotBegunUptoRow.holds Tryz.pinned (OpenSpec.upto fnExactShotBegunSpec)

/-- 'laws.FnExactHeardFeed', WHERE WHAT IT READS IS OF BULK AT MOST 1048576: true; the input reads as it did. -/
def fnExactHeardFeedUptoRow : OpenClaim := { program := "ythdiaijiokoifaagreat", sum := "59dd0e3f2aafdec2cf1708b1b8208bc59537eaa964d0e66b169968ef330b062f", func := "loop.example/g00851/laws.FnExactHeardFeed", spec := "fnExactHeardFeed", inPlace := ["slices.overlaps[loop.example/g00851/impl.Pair]", "slices.overlaps[loop.example/g00851/impl.Job]"], unfollowed := true, recurses := true, apart := false, narrowed := true }
def FnExactHeardFeedUptoSaid : Prop := fnExactHeardFeedUptoRow.holds Tryz.pinned (OpenSpec.upto fnExactHeardFeedSpec)

end Rows
end Go.Proofs.YthdiaijiokoifaaGreat
