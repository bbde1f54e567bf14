/-
  No cell of these rows narrows 'for every input' (looked for: loops, veiled, ifaces, maps, wideKeys, modest, calm, conditions, laid).
  DERIVED. THE GIVEN ROWS OF THIS SEAT. 3 by the template 'for every input the law returns true; each argument reads behind the call as it read before'; 0 by the template 'total and deterministic' (their statements: YtankkbjlneeolaaTotals.lean).
  GIVEN WITH THE SEED: the statements are not yours to turn. If you find one false, say at which input.
  Laid BY PROGRAM, IN A SANDBOX (cutbox-rows.mjs): the forced cells as the released guide's own fill.sh prints them over the translation 99998f3839e3cb5c… (all of the seat's roots in one cut). By AI agents, Wed Nov 11 2026. No macro, syntax, notation, axiom, sorry.
-/
import Derived.Test.YtankkbjlneeolaaChecked
import GoSem.Claim
import GoSem.ClaimJoined
import GoSem.ClaimMapViews
import Derived.JoinedTies
import Derived.KernelRfl
namespace Go.Proofs.Ytankkbjlneeolaa
/- THE CELL 'sum', in the pinned program and in every row, IS THE sha256 OF THE DUMP (.gsa) THAT YtankkbjlneeolaaProg.lean LOADS. Nothing in Lean hashes anything: it is a label: what it is worth is what the hold of that sum in a sandbox is worth. -/
noncomputable def Try.pinned : Pinned := { name := "ytankkbjlneeolaa", sum := "99998f3839e3cb5cff66257be4c7fb158cf384bc685d1ae4cf2a60f9edd67b6e", checked := Try.checked }
namespace Rows
def none {H : Type} : Left H := { results := [], args := [] }

/-- 'laws.FnExactFallenStore': WHATEVER THE INPUT: true; the input reads as it did. -/
def fnExactFallenStoreSpec : ChangeSpec := { name := "fnExactFallenStore", fn := fun _ => fun
  | [d1, d2] => { results := [.lit (.bool true)], args := [d1, d2] }
  | _ => none }
def fnExactFallenStoreRow : OpenClaim := { program := "ytankkbjlneeolaa", sum := "99998f3839e3cb5cff66257be4c7fb158cf384bc685d1ae4cf2a60f9edd67b6e", func := "loop.example/g00851/laws.FnExactFallenStore", spec := "fnExactFallenStore", apart := false }
def FnExactFallenStoreSaid : Prop := fnExactFallenStoreRow.holds Try.pinned (OpenSpec.ofChange fnExactFallenStoreSpec)

/-- ITS FALSE NEIGHBOUR: 'it returns false'. Refute it at one input. -/
def fnExactFallenStoreWrong : ChangeSpec := { name := "fnExactFallenStore", fn := fun _ => fun
  | [d1, d2] => { results := [.lit (.bool false)], args := [d1, d2] }
  | _ => none }
def FnExactFallenStoreWrongFalsely : Prop := fnExactFallenStoreRow.holds Try.pinned (OpenSpec.ofChange fnExactFallenStoreWrong)

/-- 'laws.FnExactShotSynced': WHATEVER THE INPUT: true; the input reads as it did. -/
def fnExactShotSyncedSpec : ChangeSpec := { name := "fnExactShotSynced", fn := fun _ => fun
  | [d] => { results := [.lit (.bool true)], args := [d] }
  | _ => none }
def fnExactShotSyncedRow : OpenClaim := { program := "ytankkbjlneeolaa", sum := "99998f3839e3cb5cff66257be4c7fb158cf384bc685d1ae4cf2a60f9edd67b6e", func := "loop.example/g00851/laws.FnExactShotSynced", spec := "fnExactShotSynced", apart := false }
def FnExactShotSyncedSaid : Prop := fnExactShotSyncedRow.holds Try.pinned (OpenSpec.ofChange fnExactShotSyncedSpec)

/-- ITS FALSE NEIGHBOUR: 'it returns false'. Refute it at one input. -/
def fnExactShotSyncedWrong : ChangeSpec := { name := "fnExactShotSynced", fn := fun _ => fun
  | [d] => { results := [.lit (.bool false)], args := [d] }
  | _ => none }
def FnExactShotSyncedWrongFalsely : Prop := fnExactShotSyncedRow.holds Try.pinned (OpenSpec.ofChange fnExactShotSyncedWrong)

/-- 'laws.FnExactReadBy': WHATEVER THE INPUT: true; the input reads as it did. -/
def fnExactReadBySpec : ChangeSpec := { name := "fnExactReadBy", fn := fun _ => fun
  | [d1, d2] => { results := [.lit (.bool true)], args := [d1, d2] }
  | _ => none }
def fnExactReadByRow : OpenClaim := { program := "ytankkbjlneeolaa", sum := "99998f3839e3cb5cff66257be4c7fb158cf384bc685d1ae4cf2a60f9edd67b6e", func := "loop.example/g00851/laws.FnExactReadBy", spec := "fnExactReadBy", unfollowed := true, recurses := true, apart := false }
def FnExactReadBySaid : Prop := fnExactReadByRow.holds Try.pinned (OpenSpec.ofChange fnExactReadBySpec)

/-- ITS FALSE NEIGHBOUR: 'it returns false'. Refute it at one input. -/
def fnExactReadByWrong : ChangeSpec := { name := "fnExactReadBy", fn := fun _ => fun
  | [d1, d2] => { results := [.lit (.bool false)], args := [d1, d2] }
  | _ => none }
def FnExactReadByWrongFalsely : Prop := fnExactReadByRow.holds Try.pinned (OpenSpec.ofChange fnExactReadByWrong)

/- THE SECOND FORM. 'bulk': how many values and letters a reading holds, each counted each time it is reached (what is shared counts as often as it is met; a slice's spare places count too). A statement '..UptoSaid' is the law's where the arguments, and the package variables that the reading takes, are together of bulk at most 1048576: NARROWER than '..Said'. Prove '..Said' where nothing that the law and all that it calls make is longer than what came in: it says more and counts as full. Else prove '..UptoSaid'. A law counts once. -/
mutual
def uptoBulk {H : Type} : DataW H → Nat
  | .lit (.string bytes) => bytes.length + 1
  | .lit _ => 1
  | .nil => 1
  | .ptr d => uptoBulk d + 1
  | .slice elems spare => uptoBulkAll elems + uptoBulkAll spare + 1
  | .agg parts => uptoBulkAll parts + 1
  | .iface _ d => uptoBulk d + 1
  | .map entries => uptoBulkEntries entries + 1
  | .held _ => 1
def uptoBulkAll {H : Type} : List (DataW H) → Nat
  | [] => 0
  | d :: r => uptoBulk d + uptoBulkAll r
def uptoBulkEntries {H : Type} : List (Lit × DataW H) → Nat
  | [] => 0
  | x :: r => uptoBulkEntry x + uptoBulkEntries r
def uptoBulkEntry {H : Type} : Lit × DataW H → Nat
  | (.string bytes, d) => bytes.length + uptoBulk d + 1
  | (_, d) => uptoBulk d + 1
 end
def uptoSmall : (H : Type) → List (DataW H) → Bool := fun _ ds => decide (uptoBulkAll ds ≤ 1048576)
def OpenSpec.upto (s : _root_.Go.ChangeSpec) : _root_.Go.OpenSpec := { _root_.Go.OpenSpec.ofChange s with cond := some uptoSmall }

/-- 'laws.FnExactFallenStore', WHERE WHAT IT READS IS OF BULK AT MOST 1048576: true; the input reads as it did. -/
def fnExactFallenStoreUptoRow : OpenClaim := { program := "ytankkbjlneeolaa", sum := "99998f3839e3cb5cff66257be4c7fb158cf384bc685d1ae4cf2a60f9edd67b6e", func := "loop.example/g00851/laws.FnExactFallenStore", spec := "fnExactFallenStore", apart := false, narrowed := true }
def FnExactFallenStoreUptoSaid : Prop := fnExactFallenStoreUptoRow.holds Try.pinned (OpenSpec.upto fnExactFallenStoreSpec)

/-- 'laws.FnExactShotSynced', WHERE WHAT IT READS IS OF BULK AT MOST 1048576: true; the input reads as it did. -/
def fnExactShotSyncedUptoRow : OpenClaim := { program := "ytankkbjlneeolaa", sum := "99998f3839e3cb5cff66257be4c7fb158cf384bc685d1ae4cf2a60f9edd67b6e", func := "loop.example/g00851/laws.FnExactShotSynced", spec := "fnExactShotSynced", apart := false, narrowed := true }
def FnExactShotSyncedUptoSaid : Prop := fnExactShotSyncedUptoRow.holds Try.pinned (OpenSpec.upto fnExactShotSyncedSpec)

/-- 'laws.FnExactReadBy', WHERE WHAT IT READS IS OF BULK AT MOST 1048576: true; the input reads as it did. -/
def fnExactReadByUptoRow : OpenClaim := { program := "ytankkbjlneeolaa", sum := "99998f3839e3cb5cff66257be4c7fb158cf384bc685d1ae4cf2a60f9edd67b6e", func := "loop.example/g00851/laws.FnExactReadBy", spec := "fnExactReadBy", unfollowed := true, recurses := true, apart := false, narrowed := true }
def FnExactReadByUptoSaid : Prop := fnExactReadByUptoRow.holds Try.pinned (OpenSpec.upto fnExactReadBySpec)

end Rows
end Go.Proofs.Ytankkbjlneeolaa
