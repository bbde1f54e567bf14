/- Views: what is heard, leaf by leaf. -/
import Derived.Test.YtonboladkbdpbaaV11
import Derived.Test.YtonboladkbdpbaaBox
namespace Go.Proofs.Ytonboladkbdpbaa
open Go.RowKit Go.G8

noncomputable def heardView (v : DView) (j : DJobs) : DView := ⟨heardJobs v.Jobs j⟩
theorem sHeardJobs_l (w : World) (c0_0 : Int) (c0_1 : Int) (c0_2 : Int) (c0_3 : Int) (c0_4 : Int) (s0_5 : Value) (l0_5 : List DDue) (c1_0 : Int) (c1_1 : Int) (c1_2 : Int) (c1_3 : Int) (c1_4 : Int) (s1_5 : Value) (l1_5 : List DDue) (h0_5 : Ints 2 w s0_5 (dues l0_5)) (h1_5 : Ints 2 w s1_5 (dues l1_5)) :
    Calls Try.prog 21 #[.agg #[.int .i64 c0_0, .int .i64 c0_1, .int .i64 c0_2, .int .i64 c0_3, .int .i64 c0_4, s0_5], .agg #[.int .i64 c1_0, .int .i64 c1_1, .int .i64 c1_2, .int .i64 c1_3, .int .i64 c1_4, s1_5]] w (Ret w fun r0 w' => IsView w.heap.size w' r0 (heardView (⟨⟨c0_0, c0_1, c0_2, c0_3, c0_4, l0_5⟩⟩ : DView) (⟨c1_0, c1_1, c1_2, c1_3, c1_4, l1_5⟩ : DJobs))) := sHeardJobs_c w ⟨c0_0, c0_1, c0_2, c0_3, c0_4, l0_5⟩ ⟨c1_0, c1_1, c1_2, c1_3, c1_4, l1_5⟩ s0_5 s1_5 h0_5 h1_5
theorem heardJobs_l (w : World) (c0_0 : Int) (c0_1 : Int) (c0_2 : Int) (c0_3 : Int) (c0_4 : Int) (s0_5 : Value) (l0_5 : List DDue) (c1_0 : Int) (c1_1 : Int) (c1_2 : Int) (c1_3 : Int) (c1_4 : Int) (s1_5 : Value) (l1_5 : List DDue) (h0_5 : Ints 2 w s0_5 (dues l0_5)) (h1_5 : Ints 2 w s1_5 (dues l1_5)) :
    Calls Try.prog 23 #[.agg #[.int .i64 c0_0, .int .i64 c0_1, .int .i64 c0_2, .int .i64 c0_3, .int .i64 c0_4, s0_5], .agg #[.int .i64 c1_0, .int .i64 c1_1, .int .i64 c1_2, .int .i64 c1_3, .int .i64 c1_4, s1_5]] w (Ret w fun r0 w' => IsView w.heap.size w' r0 (heardView (⟨⟨c0_0, c0_1, c0_2, c0_3, c0_4, l0_5⟩⟩ : DView) (⟨c1_0, c1_1, c1_2, c1_3, c1_4, l1_5⟩ : DJobs))) := heardJobs_c w ⟨c0_0, c0_1, c0_2, c0_3, c0_4, l0_5⟩ ⟨c1_0, c1_1, c1_2, c1_3, c1_4, l1_5⟩ s0_5 s1_5 h0_5 h1_5
theorem heardJobs_len (v j : DJobs) : (heardJobs v j).Open.length ≤ 8 := by
  unfold heardJobs
  split
  · rename_i h
    split
    · rename_i h2
      simp only [Bool.and_eq_true] at h2
      exact jobs_len h2.1
    · exact jobs_len h
  · simp
theorem heardView_len (v : DView) (j : DJobs) : (heardView v j).Jobs.Open.length ≤ 8 := heardJobs_len v.Jobs j

end Go.Proofs.Ytonboladkbdpbaa
