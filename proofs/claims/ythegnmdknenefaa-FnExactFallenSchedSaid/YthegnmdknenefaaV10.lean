/- Views: copies. -/
import Derived.Test.YthegnmdknenefaaV9
namespace Go.Proofs.Ythegnmdknenefaa
open Go.RowKit Go.G8

set_option maxHeartbeats 800000 in
set_option maxRecDepth 100000 in
theorem l20CopyJobs_c (w : World) (c0 c1 c2 c3 c4 : Int) (s5 : Value) (d5 : List Int) (L5 : Nat) (hL5 : d5.length = L5 * 2) (h5 : Ints 2 w s5 d5) (hs5 : L5 ≤ 1048576) :
    Calls Try.prog 103 #[.agg #[.int .i64 c0, .int .i64 c1, .int .i64 c2, .int .i64 c3, .int .i64 c4, s5]] w (Ret w fun v w' => ∃ t5 : Value, v = .agg #[.int .i64 c0, .int .i64 c1, .int .i64 c2, .int .i64 c3, .int .i64 c4, t5] ∧ OwnI w.heap.size 114 2 w' t5 d5) := by
  obtain ⟨a5, n5, k5, rfl⟩ := h5.shape
  obtain ⟨i0, hi, hz0, hz1, hz2⟩ := info_parts info_Due
  go_enter Try.func103, Try.ntmps103
  go_wp2_with (first | (at_builtin; refine wp_append_fresh rfl _ _ 37 rfl 114 i0 _ 2 16 Try.underlying37 hi hz0 hz1 hz2 rfl (by decide) (w.heap.size + 1 + 1) (by simp) rfl _ _ rfl (h5.ext (by repeat' (first | (with_reducible exact Ext.refl _) | (with_reducible assumption) | (with_reducible refine Ext.drewN ?_ _) | (with_reducible refine Ext.drew ?_) | (with_reducible refine Ext.alloc ?_ _) | (with_reducible refine Ext.setCell ?_ ?_ _) | (with_reducible exact Nat.le_refl _) | (with_reducible refine Ext.trans ?_ (by assumption)) | omega))) (ints_oneCell _ _) L5 (by simp; omega) (by unfold maxLen; omega) (by omega) ?_; rotate_right; intro t5 w1 g5 hx1; obtain ⟨ta5, tn5, tc5, rfl⟩ := g5.sl.shape; have hz1 := hx1.size; obtain ⟨hc1, hf1⟩ := hx1.cells; (repeat (first | simp only [World.size_alloc] at hz1 hc1 hf1 g5 | simp only [World.size_setCell] at hz1 hc1 hf1 g5)); have hy1_0 : w.heap.size < w1.heap.size := (by omega); have hy1_1 : w.heap.size + 1 < w1.heap.size := (by omega); have hs5 : w1.cell? ⟨w.heap.size, 5, none⟩ = some (.slice a5 n5 k5) := (hx1.cell (by simp))))
  refine bodyPost_ret (v := .agg #[.int .i64 c0, .int .i64 c1, .int .i64 c2, .int .i64 c3, .int .i64 c4, .slice ta5 tn5 tc5]) ?_ rfl ?_
  · simp [results, Try.results103, go_sem, *]
  · refine ⟨_, rfl, ?_, _, rfl, (g5.keep ?_).mono ?_⟩
    all_goals clear hc1 hf1
    · repeat' (first | (with_reducible exact Ext.refl _) | (with_reducible assumption) | (with_reducible refine Ext.drewN ?_ _) | (with_reducible refine Ext.drew ?_) | (with_reducible refine Ext.alloc ?_ _) | (with_reducible refine Ext.setCell ?_ ?_ _) | (with_reducible exact Nat.le_refl _) | (with_reducible refine Ext.trans ?_ (by assumption)) | omega)
    · repeat' (first | (with_reducible exact Chg.refl _ _) | (with_reducible refine Chg.drewN ?_ _) | (with_reducible refine Chg.drew ?_) | (with_reducible refine Chg.alloc ?_ _) | (with_reducible refine Chg.setLow ?_ ?_ _) | (with_reducible refine Chg.ext ?_ (by assumption)) | omega)
    · omega
set_option maxHeartbeats 800000 in
set_option maxRecDepth 100000 in
theorem l20Copy_c (w : World) (c0 c1 c2 c3 c4 : Int) (s5 : Value) (d5 : List Int) (L5 : Nat) (hL5 : d5.length = L5 * 2) (h5 : Ints 2 w s5 d5) (hs5 : L5 ≤ 1048576) :
    Calls Try.prog 69 #[.agg #[.int .i64 c0, .int .i64 c1, .int .i64 c2, .int .i64 c3, .int .i64 c4, s5]] w (Ret w fun v w' => ∃ t5 : Value, v = .agg #[.int .i64 c0, .int .i64 c1, .int .i64 c2, .int .i64 c3, .int .i64 c4, t5] ∧ OwnI w.heap.size 114 2 w' t5 d5) := by
  obtain ⟨a5, n5, k5, rfl⟩ := h5.shape
  go_enter Try.func69, Try.ntmps69
  go_wp2_with (first | (go_at_call 103; refine (l20CopyJobs_c _ c0 c1 c2 c3 c4 _ d5 L5 hL5 (h5.ext (by repeat' (first | (with_reducible exact Ext.refl _) | (with_reducible assumption) | (with_reducible refine Ext.drewN ?_ _) | (with_reducible refine Ext.drew ?_) | (with_reducible refine Ext.alloc ?_ _) | (with_reducible refine Ext.setCell ?_ ?_ _) | (with_reducible exact Nat.le_refl _) | (with_reducible refine Ext.trans ?_ (by assumption)) | omega))) hs5).mono ?_; rintro e w1 ⟨_, rfl, hx1, t5, rfl, g5⟩; obtain ⟨ta5, tn5, tc5, rfl⟩ := g5.shape; have hz1 := hx1.size; obtain ⟨hc1, hf1⟩ := hx1.cells; (repeat (first | simp only [World.size_alloc] at hz1 hc1 hf1 g5 | simp only [World.size_setCell] at hz1 hc1 hf1 g5)); have hy1_0 : w.heap.size < w1.heap.size := (by omega); have hy1_1 : w.heap.size + 1 < w1.heap.size := (by omega)))
  refine bodyPost_ret (v := .agg #[.int .i64 c0, .int .i64 c1, .int .i64 c2, .int .i64 c3, .int .i64 c4, .slice ta5 tn5 tc5]) ?_ rfl ?_
  · simp [results, Try.results69, go_sem, *]
  · refine ⟨_, rfl, ?_, _, rfl, (g5.keep ?_).mono ?_⟩
    all_goals clear hc1 hf1
    · repeat' (first | (with_reducible exact Ext.refl _) | (with_reducible assumption) | (with_reducible refine Ext.drewN ?_ _) | (with_reducible refine Ext.drew ?_) | (with_reducible refine Ext.alloc ?_ _) | (with_reducible refine Ext.setCell ?_ ?_ _) | (with_reducible exact Nat.le_refl _) | (with_reducible refine Ext.trans ?_ (by assumption)) | omega)
    · repeat' (first | (with_reducible exact Chg.refl _ _) | (with_reducible refine Chg.drewN ?_ _) | (with_reducible refine Chg.drew ?_) | (with_reducible refine Chg.alloc ?_ _) | (with_reducible refine Chg.setLow ?_ ?_ _) | (with_reducible refine Chg.ext ?_ (by assumption)) | omega)
    · omega
set_option maxHeartbeats 800000 in
set_option maxRecDepth 100000 in
theorem copyView_c (w : World) (c0 c1 c2 c3 c4 : Int) (s5 : Value) (d5 : List Int) (L5 : Nat) (hL5 : d5.length = L5 * 2) (h5 : Ints 2 w s5 d5) (hs5 : L5 ≤ 1048576) :
    Calls Try.prog 73 #[.agg #[.int .i64 c0, .int .i64 c1, .int .i64 c2, .int .i64 c3, .int .i64 c4, s5]] w (Ret w fun v w' => ∃ t5 : Value, v = .agg #[.int .i64 c0, .int .i64 c1, .int .i64 c2, .int .i64 c3, .int .i64 c4, t5] ∧ OwnI w.heap.size 114 2 w' t5 d5) := by
  obtain ⟨a5, n5, k5, rfl⟩ := h5.shape
  obtain ⟨i0, hi, hz0, hz1, hz2⟩ := info_parts info_Due
  go_enter Try.func73, Try.ntmps73
  go_wp2_with (first | (at_builtin; refine wp_append_fresh rfl _ _ 37 rfl 114 i0 _ 2 16 Try.underlying37 hi hz0 hz1 hz2 rfl (by decide) (w.heap.size + 1 + 1 + 1) (by simp) rfl _ _ rfl (h5.ext (by repeat' (first | (with_reducible exact Ext.refl _) | (with_reducible assumption) | (with_reducible refine Ext.drewN ?_ _) | (with_reducible refine Ext.drew ?_) | (with_reducible refine Ext.alloc ?_ _) | (with_reducible refine Ext.setCell ?_ ?_ _) | (with_reducible exact Nat.le_refl _) | (with_reducible refine Ext.trans ?_ (by assumption)) | omega))) (ints_oneCell _ _) L5 (by simp; omega) (by unfold maxLen; omega) (by omega) ?_; rotate_right; intro t5 w1 g5 hx1; obtain ⟨ta5, tn5, tc5, rfl⟩ := g5.sl.shape; have hz1 := hx1.size; obtain ⟨hc1, hf1⟩ := hx1.cells; (repeat (first | simp only [World.size_alloc] at hz1 hc1 hf1 g5 | simp only [World.size_setCell] at hz1 hc1 hf1 g5)); have hy1_0 : w.heap.size < w1.heap.size := (by omega); have hy1_1 : w.heap.size + 1 < w1.heap.size := (by omega); have hy1_2 : w.heap.size + 1 + 1 < w1.heap.size := (by omega)))
  refine bodyPost_ret (v := .agg #[.int .i64 c0, .int .i64 c1, .int .i64 c2, .int .i64 c3, .int .i64 c4, .slice ta5 tn5 tc5]) ?_ rfl ?_
  · simp [results, Try.results73, go_sem, *]
  · refine ⟨_, rfl, ?_, _, rfl, (g5.keep ?_).mono ?_⟩
    all_goals clear hc1 hf1
    · repeat' (first | (with_reducible exact Ext.refl _) | (with_reducible assumption) | (with_reducible refine Ext.drewN ?_ _) | (with_reducible refine Ext.drew ?_) | (with_reducible refine Ext.alloc ?_ _) | (with_reducible refine Ext.setCell ?_ ?_ _) | (with_reducible exact Nat.le_refl _) | (with_reducible refine Ext.trans ?_ (by assumption)) | omega)
    · repeat' (first | (with_reducible exact Chg.refl _ _) | (with_reducible refine Chg.drewN ?_ _) | (with_reducible refine Chg.drew ?_) | (with_reducible refine Chg.alloc ?_ _) | (with_reducible refine Chg.setLow ?_ ?_ _) | (with_reducible refine Chg.ext ?_ (by assumption)) | omega)
    · omega
end Go.Proofs.Ythegnmdknenefaa
