/- NJ0. -/
import Derived.Test.YtkpmbocbbgocbaaGreatQB2
set_option linter.unusedSimpArgs false
set_option linter.unusedVariables false
set_option maxHeartbeats 8000000
set_option maxRecDepth 100000
namespace Go.Proofs.YtkpmbocbbgocbaaGreat
open Go.RowKit Go.G8
theorem fG(w:World)(a0 a3 b0 b3:Option Addr)(a1 a2 a4 a5 b1 b2 b4 b5:Nat):Calls Tryz.prog 237 #[.agg #[.slice a0 a1 a2,.slice a3 a4 a5,.slice b0 b1 b2,.slice b3 b4 b5]] w (Cp w (.agg #[.slice a0 a1 a2,.slice a3 a4 a5,.slice b0 b1 b2,.slice b3 b4 b5])):=by
 go_enter Tryz.func237,Tryz.ntmps237
 go_wp2_with fail
 refine bodyPost_ret (by simp[results,Tryz.results237,go_sem];try rfl) rfl ?_
 exact⟨rfl,by exact Aa⟩
end Go.Proofs.YtkpmbocbbgocbaaGreat
