/- Views: whether one is valid. -/
import Derived.Test.YthegnmdknenefaaV4
namespace Go.Proofs.Ythegnmdknenefaa
open Go.RowKit Go.G8

set_option maxHeartbeats 400000 in
theorem sViewOk_c (w : World) (v : DView) (s : Value) (h : Ints 2 w s (dues v.Jobs.Open)) : Calls Try.prog 59 #[.agg #[.int .i64 v.Jobs.Index, .int .i64 v.Jobs.Time, .int .i64 v.Jobs.Holder, .int .i64 v.Jobs.Epoch, .int .i64 v.Jobs.Until, s]] w (RetV w (.bool (jobsOk2 v.Jobs))) := by
  obtain ⟨a, n, c, rfl⟩ := h.shape
  go_enter Try.func59, Try.ntmps59
  go_wp2_with (first | (go_at_call 90; refine (sJobsOk2_c _ v.Jobs _ (h.ext (by repeat' (first | (with_reducible exact Ext.refl _) | (with_reducible assumption) | (with_reducible refine Ext.drewN ?_ _) | (with_reducible refine Ext.drew ?_) | (with_reducible refine Ext.alloc ?_ _) | (with_reducible refine Ext.setCell ?_ ?_ _) | (with_reducible exact Nat.le_refl _) | (with_reducible refine Ext.trans ?_ (by assumption)) | omega)))).mono ?_; rintro e w1 ⟨rfl, hx1⟩; have hz1 := hx1.size; obtain ⟨hc1, hf1⟩ := hx1.cells; (repeat (first | simp only [World.size_alloc] at hz1 hc1 hf1 | simp only [World.size_setCell] at hz1 hc1 hf1)); have hy1_0 : w.heap.size < w1.heap.size := (by omega)))
  go_ret
  refine ⟨rfl, ?_⟩
  repeat' (first | (with_reducible exact Ext.refl _) | (with_reducible assumption) | (with_reducible refine Ext.drewN ?_ _) | (with_reducible refine Ext.drew ?_) | (with_reducible refine Ext.alloc ?_ _) | (with_reducible refine Ext.setCell ?_ ?_ _) | (with_reducible exact Nat.le_refl _) | (with_reducible refine Ext.trans ?_ (by assumption)) | omega)

set_option maxHeartbeats 400000 in
theorem viewOk_c (w : World) (v : DView) (s : Value) (h : Ints 2 w s (dues v.Jobs.Open)) : Calls Try.prog 64 #[.agg #[.int .i64 v.Jobs.Index, .int .i64 v.Jobs.Time, .int .i64 v.Jobs.Holder, .int .i64 v.Jobs.Epoch, .int .i64 v.Jobs.Until, s]] w (RetV w (.bool (jobsOk2 v.Jobs))) := by
  obtain ⟨a, n, c, rfl⟩ := h.shape
  go_enter Try.func64, Try.ntmps64
  go_wp2_with (first | (go_at_call 96; refine (jobsOk2_c _ v.Jobs _ (h.ext (by repeat' (first | (with_reducible exact Ext.refl _) | (with_reducible assumption) | (with_reducible refine Ext.drewN ?_ _) | (with_reducible refine Ext.drew ?_) | (with_reducible refine Ext.alloc ?_ _) | (with_reducible refine Ext.setCell ?_ ?_ _) | (with_reducible exact Nat.le_refl _) | (with_reducible refine Ext.trans ?_ (by assumption)) | omega)))).mono ?_; rintro e w1 ⟨rfl, hx1⟩; have hz1 := hx1.size; obtain ⟨hc1, hf1⟩ := hx1.cells; (repeat (first | simp only [World.size_alloc] at hz1 hc1 hf1 | simp only [World.size_setCell] at hz1 hc1 hf1)); have hy1_0 : w.heap.size < w1.heap.size := (by omega)))
  go_ret
  refine ⟨rfl, ?_⟩
  repeat' (first | (with_reducible exact Ext.refl _) | (with_reducible assumption) | (with_reducible refine Ext.drewN ?_ _) | (with_reducible refine Ext.drew ?_) | (with_reducible refine Ext.alloc ?_ _) | (with_reducible refine Ext.setCell ?_ ?_ _) | (with_reducible exact Nat.le_refl _) | (with_reducible refine Ext.trans ?_ (by assumption)) | omega)

end Go.Proofs.Ythegnmdknenefaa
