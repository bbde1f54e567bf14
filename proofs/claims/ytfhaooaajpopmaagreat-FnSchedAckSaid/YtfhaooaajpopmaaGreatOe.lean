/- Contracts and plain laws: AHk. -/
import Derived.Test.YtfhaooaajpopmaaGreatMa
import Derived.Test.YtfhaooaajpopmaaGreatOb
import Derived.Test.YtfhaooaajpopmaaGreatOd
set_option linter.unusedSimpArgs false
set_option linter.unusedVariables false
set_option maxHeartbeats 8000000
set_option maxRecDepth 100000
namespace Go.Proofs.YtfhaooaajpopmaaGreat
open Go.RowKit Go.G8
noncomputable def ackH (s : DSched) (a0 a1 a2 a3 : Int) : DSched := ackHeard s ⟨a0, a1, a2, a3⟩
theorem sAckHeard_f {w : World} {v : Value} {s : DSched} (h : RdSched w v s) (a0 a1 a2 a3 : Int) : Calls Tryz.prog 6 #[v, .agg #[.int .i64 a0, .int .i64 a1, .int .i64 a2, .int .i64 a3]] w (Ret w fun r w' => ∃ F, OwSched w.heap.size w' r (ackH s a0 a1 a2 a3) F) := sAckHeard_k h a0 a1 a2 a3
theorem ackHeard_f {w : World} {v : Value} {s : DSched} (h : RdSched w v s) (a0 a1 a2 a3 : Int) : Calls Tryz.prog 7 #[v, .agg #[.int .i64 a0, .int .i64 a1, .int .i64 a2, .int .i64 a3]] w (Ret w fun r w' => ∃ F, OwSched w.heap.size w' r (ackH s a0 a1 a2 a3) F) := ackHeard_k h a0 a1 a2 a3
end Go.Proofs.YtfhaooaajpopmaaGreat
