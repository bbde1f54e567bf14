/- DS DS3 DS2 DS4. -/
import Derived.Test.YtkpmbocbbgocbaaGreatGa
import Derived.Deep.DeepCutAuto
import Derived.Test.YtkpmbocbbgocbaaGreatGo
import Derived.Test.YtkpmbocbbgocbaaGreatGk
set_option linter.unusedSimpArgs false
set_option linter.unusedVariables false
set_option maxHeartbeats 8000000
set_option maxRecDepth 100000
namespace Go.Proofs.YtkpmbocbbgocbaaGreat
open Go.RowKit Go.G8
theorem IsState.nil (M:Nat) (w:World):IsState M w (.agg #[.int .i64 0,.int .i64 0,.slice none 0 0,.slice none 0 0,.int .i64 0,.int .i64 0,.int .i64 0]) ⟨0,0,[],[],⟨0,0,0⟩⟩:=⟨_,_,rfl,OwnI.nil _ _ _ _,OwnI.nil _ _ _ _⟩
theorem sNewState_c (w:World):Calls Tryz.prog 319 #[] w (RetV w (.agg #[.int .i64 0,.int .i64 0,.slice none 0 0,.slice none 0 0,.int .i64 0,.int .i64 0,.int .i64 0])):=by
 go_enter Tryz.func319,Tryz.ntmps319
 go_wp2_with fail
 refine bodyPost_ret (by simp [results,Tryz.results319,go_sem];try rfl) rfl ?_
 exact⟨rfl,xT⟩
end Go.Proofs.YtkpmbocbbgocbaaGreat
