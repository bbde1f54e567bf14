/- Contracts and plain laws: Os. -/
import Derived.Test.YtlnkggpemdpemaaGreatYa
import Derived.Test.YtlnkggpemdpemaaGreatYl
set_option linter.unusedSimpArgs false
set_option linter.unusedVariables false
set_option maxHeartbeats 8000000
set_option maxRecDepth 100000
namespace Go.Proofs.YtlnkggpemdpemaaGreat
open Go.RowKit Go.G8
theorem OwStore.of {B : Nat} {w : World} {t0 t1 t4 t5 : Value} {d : DDisk} {i t : Int} {p : List DPair} {j : List DJob} {a b c num last busy : Int} (h : IsDisk B w (.agg #[t0, t1]) d) (h4 : OwnI B 113 2 w t4 (flPair p)) (h5 : OwnI B 95 5 w t5 (flJob j)) :
  ∃ F, OwStore B w (.agg #[t0, t1, .int .i64 i, .int .i64 t, t4, t5, .int .i64 a, .int .i64 b, .int .i64 c, .int .i64 num, .int .i64 last, .int .i64 busy]) ⟨d, ⟨i, t, p, j, ⟨a, b, c⟩⟩, num, last, busy⟩ F := by
 obtain ⟨u0, u1, s0, s1, e, g0, g1, gd⟩ := h
 injection e with e
 injection e with e
 injection e with e0 e
 injection e with e1 e
 subst e0; subst e1
 exact ⟨_, _, _, _, _, s0, s1, rfl, g0, g1, h4, h5, gd, rfl⟩
theorem newAt_is (d : DDisk) : newAt d = 0 ∨ newAt d = 1 := by
 unfold newAt
 split
 ·
  exact .inr rfl
 exact .inl rfl
end Go.Proofs.YtlnkggpemdpemaaGreat
