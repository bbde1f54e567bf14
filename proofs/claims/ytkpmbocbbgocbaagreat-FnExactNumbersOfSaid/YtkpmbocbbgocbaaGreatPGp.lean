/- DS DS3 DS2 DS4. -/
import Derived.Test.YtkpmbocbbgocbaaGreatPGo
import Derived.Test.YtkpmbocbbgocbaaGreatPGk
set_option linter.unusedSimpArgs false
set_option linter.unusedVariables false
set_option maxHeartbeats 8000000
set_option maxRecDepth 100000
namespace Go.Proofs.YtkpmbocbbgocbaaGreat
open Go.RowKit Go.G8
theorem GI.nil(M:Nat)(w:World):GI M w (.agg #[.int .i64 0,.int .i64 0,.slice none 0 0,.slice none 0 0,.int .i64 0,.int .i64 0,.int .i64 0]) ⟨0,0,[],[],⟨0,0,0⟩⟩:=⟨_,_,rfl,Ba.nil _ _ _ _,Ba.nil _ _ _ _⟩
theorem aP4(w:World):Calls Tryz.prog 319 #[] w (Fz w (.agg #[.int .i64 0,.int .i64 0,.slice none 0 0,.slice none 0 0,.int .i64 0,.int .i64 0,.int .i64 0])):=by
 go_enter Tryz.func319,Tryz.ntmps319
 go_wp2_with fail
 refine bodyPost_ret (by simp[results,Tryz.results319,go_sem];try rfl) rfl ?_
 exact⟨rfl,xT⟩
end Go.Proofs.YtkpmbocbbgocbaaGreat
