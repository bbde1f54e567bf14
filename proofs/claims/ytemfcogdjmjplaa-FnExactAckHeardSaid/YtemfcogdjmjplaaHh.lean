/- Contracts and plain laws: AHk. -/
import Derived.Test.YtemfcogdjmjplaaHf
import Derived.Test.YtemfcogdjmjplaaHg
set_option linter.unusedSimpArgs false
set_option linter.unusedVariables false
-- AckHeard in short words.
set_option linter.unusedSimpArgs false
set_option linter.unusedVariables false
namespace Go.Proofs.Ytemfcogdjmjplaa
open Go.RowKit Go.G8

noncomputable def ackH (s : DSched) (a0 a1 a2 a3 : Int) : DSched := ackHeard s ⟨a0, a1, a2, a3⟩
theorem nAk (s : DSched) (a0 a1 a2 a3 : Int) : numSched (ackH s a0 a1 a2 a3) ≤ 100000000 := nAh s _
theorem rowU (w : World) (g : Nat) (cs : Array Value) : Upd w (w.setRow g cs) [g] := ⟨rfl, rfl, rfl, by rw [size_setRow]; exact Nat.le_refl _, fun k _ hn => heap_setRow_ne w cs (fun e => hn (by simp [e]))⟩
theorem sAckHeard_f {w : World} {v : Value} {s : DSched} (h : RdSched w v s) (a0 a1 a2 a3 : Int) : Calls Try.prog 14 #[v, .agg #[.int .i64 a0, .int .i64 a1, .int .i64 a2, .int .i64 a3]] w (Ret w fun r w' => ∃ F, OwSched w.heap.size w' r (ackH s a0 a1 a2 a3) F) := sAckHeard_k h a0 a1 a2 a3
theorem ackHeard_f {w : World} {v : Value} {s : DSched} (h : RdSched w v s) (a0 a1 a2 a3 : Int) : Calls Try.prog 16 #[v, .agg #[.int .i64 a0, .int .i64 a1, .int .i64 a2, .int .i64 a3]] w (Ret w fun r w' => ∃ F, OwSched w.heap.size w' r (ackH s a0 a1 a2 a3) F) := ackHeard_k h a0 a1 a2 a3

end Go.Proofs.Ytemfcogdjmjplaa
