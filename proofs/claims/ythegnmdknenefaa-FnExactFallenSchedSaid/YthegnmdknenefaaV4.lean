/- Whether a list of open jobs, with its lease, is valid: the program. -/
import Derived.Test.YthegnmdknenefaaV4b
import Derived.Test.YthegnmdknenefaaV4c
namespace Go.Proofs.Ythegnmdknenefaa
open Go.RowKit Go.G8

theorem jobsOk2_c (w : World) (j : DJobs) (s : Value) (h : Ints 2 w s (dues j.Open)) : Calls Try.prog 96 #[.agg #[.int .i64 j.Index, .int .i64 j.Time, .int .i64 j.Holder, .int .i64 j.Epoch, .int .i64 j.Until, s]] w (RetV w (.bool (jobsOk2 j))) := by
  by_cases hg : inb j.Index 0 2000 = true ∧ timeOk j.Time = true ∧ (j.Holder == 0 || schedOk j.Holder) = true ∧ inb j.Epoch 0 1000 = true ∧ inb j.Until 0 1001000 = true ∧ j.Open.length ≤ 8
  · obtain ⟨h1, h2, h3, h4, h5, h8⟩ := hg
    cases h6 : (j.Holder == 0)
    · exact jobsOk2_held w j s h h1 h2 h6 (by simpa [h6] using h3) h4 h5 h8
    · exact jobsOk2_free w j s h h1 h2 h6 h4 h5 h8
  · exact jobsOk2_bad w j s h hg
end Go.Proofs.Ythegnmdknenefaa
