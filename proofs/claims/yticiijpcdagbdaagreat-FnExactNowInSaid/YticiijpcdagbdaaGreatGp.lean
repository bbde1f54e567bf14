/- Contracts and plain laws: DS DS3 DS2 DS4. -/
import Derived.Test.YticiijpcdagbdaaGreatGa
import Derived.Deep.DeepCutAuto
import Derived.Test.YticiijpcdagbdaaGreatGo
import Derived.Test.YticiijpcdagbdaaGreatGk
set_option linter.unusedSimpArgs false
set_option linter.unusedVariables false
set_option maxHeartbeats 8000000
set_option maxRecDepth 100000
namespace Go.Proofs.YticiijpcdagbdaaGreat
open Go.RowKit Go.G8
theorem IsState.nil (M : Nat) (w : World) : IsState M w (.agg #[.int .i64 0, .int .i64 0, .slice none 0 0, .slice none 0 0, .int .i64 0, .int .i64 0, .int .i64 0]) ⟨0, 0, [], [], ⟨0, 0, 0⟩⟩ := ⟨_, _, rfl, OwnI.nil _ _ _ _, OwnI.nil _ _ _ _⟩
theorem sNewState_c (w : World) : Calls Tryz.prog 200 #[] w (RetV w (.agg #[.int .i64 0, .int .i64 0, .slice none 0 0, .slice none 0 0, .int .i64 0, .int .i64 0, .int .i64 0])) := by
 go_enter Tryz.func200, Tryz.ntmps200
 go_wp2_with fail
 refine bodyPost_ret (by simp [results, Tryz.results200, go_sem]; try rfl) rfl ?_
 exact ⟨rfl, xT⟩
end Go.Proofs.YticiijpcdagbdaaGreat
