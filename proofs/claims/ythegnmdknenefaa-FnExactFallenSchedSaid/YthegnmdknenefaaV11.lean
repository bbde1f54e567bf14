/- Views: what is heard of the jobs. -/
import Derived.Test.YthegnmdknenefaaV10
namespace Go.Proofs.Ythegnmdknenefaa
open Go.RowKit Go.G8

noncomputable def heardJobs (v j : DJobs) : DJobs := if jobsOk2 v then (if jobsOk2 j && !decide (j.Index < v.Index) then j else v) else ⟨0, 0, 0, 0, 0, []⟩
theorem jobs_len {j : DJobs} (h : jobsOk2 j = true) : j.Open.length ≤ 8 := by
  simp only [Bool.and_eq_true, jobsOk2] at h
  exact (openOk_iff.1 h.2.2.2.2.2).1

end Go.Proofs.Ythegnmdknenefaa
