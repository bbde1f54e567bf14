/- Views: stale, and the estimate of the time. -/
import Derived.Test.YthegnmdknenefaaV5
namespace Go.Proofs.Ythegnmdknenefaa
open Go.RowKit Go.G8

set_option maxHeartbeats 400000 in
theorem l1Max_c (w : World) (x y : Int) : Calls Try.prog 104 #[.int .i64 x, .int .i64 y] w fun e w' => e = .returned (.int .i64 (max x y)) ∧ w = w' := by
  by_cases h : y < x
  · rw [show max x y = x by omega]
    go_enter Try.func104, Try.ntmps104
    go_wp2
    go_ret
    exact ⟨rfl, rfl⟩
  · rw [show max x y = y by omega]
    go_enter Try.func104, Try.ntmps104
    go_wp2
    go_ret
    exact ⟨rfl, rfl⟩
set_option maxHeartbeats 800000 in
theorem sStaleIn_c (w : World) (v : DView) (s : Value) (index : Int) (h : Ints 2 w s (dues v.Jobs.Open)) : Calls Try.prog 44 #[.agg #[.int .i64 v.Jobs.Index, .int .i64 v.Jobs.Time, .int .i64 v.Jobs.Holder, .int .i64 v.Jobs.Epoch, .int .i64 v.Jobs.Until, s], .int .i64 index] w (RetV w (.bool (staleIn v index))) := by
  obtain ⟨a, n, c, rfl⟩ := h.shape
  cases hb : jobsOk2 v.Jobs
  · have hv : staleIn v index = false := by simp [staleIn, hb]
    rw [hv]
    clear hv
    go_enter Try.func44, Try.ntmps44
    go_wp2_with (first | (go_at_call 59; refine (sViewOk_c _ v _ (h.ext (by repeat' (first | (with_reducible exact Ext.refl _) | (with_reducible assumption) | (with_reducible refine Ext.drewN ?_ _) | (with_reducible refine Ext.drew ?_) | (with_reducible refine Ext.alloc ?_ _) | (with_reducible refine Ext.setCell ?_ ?_ _) | (with_reducible exact Nat.le_refl _) | (with_reducible refine Ext.trans ?_ (by assumption)) | omega)))).mono ?_; rintro e w1 ⟨rfl, hx1⟩; rw [hb]; have hz1 := hx1.size; obtain ⟨hc1, hf1⟩ := hx1.cells; (repeat (first | simp only [World.size_alloc] at hz1 hc1 hf1 | simp only [World.size_setCell] at hz1 hc1 hf1)); have hy1_0 : w.heap.size < w1.heap.size := (by omega)))
    all_goals
      go_ret
      refine ⟨rfl, ?_⟩
      repeat' (first | (with_reducible exact Ext.refl _) | (with_reducible assumption) | (with_reducible refine Ext.drewN ?_ _) | (with_reducible refine Ext.drew ?_) | (with_reducible refine Ext.alloc ?_ _) | (with_reducible refine Ext.setCell ?_ ?_ _) | (with_reducible exact Nat.le_refl _) | (with_reducible refine Ext.trans ?_ (by assumption)) | omega)
  · have hv : staleIn v index = decide (v.Jobs.Index < index) := by simp [staleIn, hb]
    rw [hv]
    clear hv
    go_enter Try.func44, Try.ntmps44
    go_wp2_with (first | (go_at_call 59; refine (sViewOk_c _ v _ (h.ext (by repeat' (first | (with_reducible exact Ext.refl _) | (with_reducible assumption) | (with_reducible refine Ext.drewN ?_ _) | (with_reducible refine Ext.drew ?_) | (with_reducible refine Ext.alloc ?_ _) | (with_reducible refine Ext.setCell ?_ ?_ _) | (with_reducible exact Nat.le_refl _) | (with_reducible refine Ext.trans ?_ (by assumption)) | omega)))).mono ?_; rintro e w1 ⟨rfl, hx1⟩; rw [hb]; have hz1 := hx1.size; obtain ⟨hc1, hf1⟩ := hx1.cells; (repeat (first | simp only [World.size_alloc] at hz1 hc1 hf1 | simp only [World.size_setCell] at hz1 hc1 hf1)); have hy1_0 : w.heap.size < w1.heap.size := (by omega)))
    all_goals
      go_ret
      refine ⟨rfl, ?_⟩
      repeat' (first | (with_reducible exact Ext.refl _) | (with_reducible assumption) | (with_reducible refine Ext.drewN ?_ _) | (with_reducible refine Ext.drew ?_) | (with_reducible refine Ext.alloc ?_ _) | (with_reducible refine Ext.setCell ?_ ?_ _) | (with_reducible exact Nat.le_refl _) | (with_reducible refine Ext.trans ?_ (by assumption)) | omega)

set_option maxHeartbeats 800000 in
theorem staleIn_c (w : World) (v : DView) (s : Value) (index : Int) (h : Ints 2 w s (dues v.Jobs.Open)) : Calls Try.prog 80 #[.agg #[.int .i64 v.Jobs.Index, .int .i64 v.Jobs.Time, .int .i64 v.Jobs.Holder, .int .i64 v.Jobs.Epoch, .int .i64 v.Jobs.Until, s], .int .i64 index] w (RetV w (.bool (staleIn v index))) := by
  obtain ⟨a, n, c, rfl⟩ := h.shape
  cases hb : jobsOk2 v.Jobs
  · have hv : staleIn v index = false := by simp [staleIn, hb]
    rw [hv]
    clear hv
    go_enter Try.func80, Try.ntmps80
    go_wp2_with (first | (go_at_call 64; refine (viewOk_c _ v _ (h.ext (by repeat' (first | (with_reducible exact Ext.refl _) | (with_reducible assumption) | (with_reducible refine Ext.drewN ?_ _) | (with_reducible refine Ext.drew ?_) | (with_reducible refine Ext.alloc ?_ _) | (with_reducible refine Ext.setCell ?_ ?_ _) | (with_reducible exact Nat.le_refl _) | (with_reducible refine Ext.trans ?_ (by assumption)) | omega)))).mono ?_; rintro e w1 ⟨rfl, hx1⟩; rw [hb]; have hz1 := hx1.size; obtain ⟨hc1, hf1⟩ := hx1.cells; (repeat (first | simp only [World.size_alloc] at hz1 hc1 hf1 | simp only [World.size_setCell] at hz1 hc1 hf1)); have hy1_0 : w.heap.size < w1.heap.size := (by omega)))
    all_goals
      go_ret
      refine ⟨rfl, ?_⟩
      repeat' (first | (with_reducible exact Ext.refl _) | (with_reducible assumption) | (with_reducible refine Ext.drewN ?_ _) | (with_reducible refine Ext.drew ?_) | (with_reducible refine Ext.alloc ?_ _) | (with_reducible refine Ext.setCell ?_ ?_ _) | (with_reducible exact Nat.le_refl _) | (with_reducible refine Ext.trans ?_ (by assumption)) | omega)
  · have hv : staleIn v index = decide (v.Jobs.Index < index) := by simp [staleIn, hb]
    rw [hv]
    clear hv
    go_enter Try.func80, Try.ntmps80
    go_wp2_with (first | (go_at_call 64; refine (viewOk_c _ v _ (h.ext (by repeat' (first | (with_reducible exact Ext.refl _) | (with_reducible assumption) | (with_reducible refine Ext.drewN ?_ _) | (with_reducible refine Ext.drew ?_) | (with_reducible refine Ext.alloc ?_ _) | (with_reducible refine Ext.setCell ?_ ?_ _) | (with_reducible exact Nat.le_refl _) | (with_reducible refine Ext.trans ?_ (by assumption)) | omega)))).mono ?_; rintro e w1 ⟨rfl, hx1⟩; rw [hb]; have hz1 := hx1.size; obtain ⟨hc1, hf1⟩ := hx1.cells; (repeat (first | simp only [World.size_alloc] at hz1 hc1 hf1 | simp only [World.size_setCell] at hz1 hc1 hf1)); have hy1_0 : w.heap.size < w1.heap.size := (by omega)))
    all_goals
      go_ret
      refine ⟨rfl, ?_⟩
      repeat' (first | (with_reducible exact Ext.refl _) | (with_reducible assumption) | (with_reducible refine Ext.drewN ?_ _) | (with_reducible refine Ext.drew ?_) | (with_reducible refine Ext.alloc ?_ _) | (with_reducible refine Ext.setCell ?_ ?_ _) | (with_reducible exact Nat.le_refl _) | (with_reducible refine Ext.trans ?_ (by assumption)) | omega)

set_option maxHeartbeats 800000 in
theorem sGuessOf_c (w : World) (v : DView) (s : Value) (now : Int) (h : Ints 2 w s (dues v.Jobs.Open)) : Calls Try.prog 78 #[.agg #[.int .i64 v.Jobs.Index, .int .i64 v.Jobs.Time, .int .i64 v.Jobs.Holder, .int .i64 v.Jobs.Epoch, .int .i64 v.Jobs.Until, s], .int .i64 now] w (RetV w (.int .i64 (guessOf v now))) := by
  obtain ⟨a, n, c, rfl⟩ := h.shape
  cases hb : jobsOk2 v.Jobs
  · have hv : guessOf v now = -1 := by simp [guessOf, hb]
    rw [hv]
    clear hv
    go_enter Try.func78, Try.ntmps78
    go_wp2_with (first | (go_at_call 59; refine (sViewOk_c _ v _ (h.ext (by repeat' (first | (with_reducible exact Ext.refl _) | (with_reducible assumption) | (with_reducible refine Ext.drewN ?_ _) | (with_reducible refine Ext.drew ?_) | (with_reducible refine Ext.alloc ?_ _) | (with_reducible refine Ext.setCell ?_ ?_ _) | (with_reducible exact Nat.le_refl _) | (with_reducible refine Ext.trans ?_ (by assumption)) | omega)))).mono ?_; rintro e w1 ⟨rfl, hx1⟩; rw [hb]; have hz1 := hx1.size; obtain ⟨hc1, hf1⟩ := hx1.cells; (repeat (first | simp only [World.size_alloc] at hz1 hc1 hf1 | simp only [World.size_setCell] at hz1 hc1 hf1)); have hy1_0 : w.heap.size < w1.heap.size := (by omega)) | (go_at_call 43; refine (l16Time_c _ _).mono ?_; rintro e wt ⟨rfl, rfl⟩; try rw [ht]))
    all_goals
      go_ret
      refine ⟨rfl, ?_⟩
      repeat' (first | (with_reducible exact Ext.refl _) | (with_reducible assumption) | (with_reducible refine Ext.drewN ?_ _) | (with_reducible refine Ext.drew ?_) | (with_reducible refine Ext.alloc ?_ _) | (with_reducible refine Ext.setCell ?_ ?_ _) | (with_reducible exact Nat.le_refl _) | (with_reducible refine Ext.trans ?_ (by assumption)) | omega)
  · cases ht : timeOk now
    · have hv : guessOf v now = -1 := by simp [guessOf, hb, ht]
      rw [hv]
      clear hv
      go_enter Try.func78, Try.ntmps78
      go_wp2_with (first | (go_at_call 59; refine (sViewOk_c _ v _ (h.ext (by repeat' (first | (with_reducible exact Ext.refl _) | (with_reducible assumption) | (with_reducible refine Ext.drewN ?_ _) | (with_reducible refine Ext.drew ?_) | (with_reducible refine Ext.alloc ?_ _) | (with_reducible refine Ext.setCell ?_ ?_ _) | (with_reducible exact Nat.le_refl _) | (with_reducible refine Ext.trans ?_ (by assumption)) | omega)))).mono ?_; rintro e w1 ⟨rfl, hx1⟩; rw [hb]; have hz1 := hx1.size; obtain ⟨hc1, hf1⟩ := hx1.cells; (repeat (first | simp only [World.size_alloc] at hz1 hc1 hf1 | simp only [World.size_setCell] at hz1 hc1 hf1)); have hy1_0 : w.heap.size < w1.heap.size := (by omega)) | (go_at_call 43; refine (l16Time_c _ _).mono ?_; rintro e wt ⟨rfl, rfl⟩; try rw [ht]))
      all_goals
        go_ret
        refine ⟨rfl, ?_⟩
        repeat' (first | (with_reducible exact Ext.refl _) | (with_reducible assumption) | (with_reducible refine Ext.drewN ?_ _) | (with_reducible refine Ext.drew ?_) | (with_reducible refine Ext.alloc ?_ _) | (with_reducible refine Ext.setCell ?_ ?_ _) | (with_reducible exact Nat.le_refl _) | (with_reducible refine Ext.trans ?_ (by assumption)) | omega)
    · have hv : guessOf v now = max v.Jobs.Time now := by simp [guessOf, hb, ht]
      rw [hv]
      clear hv
      go_enter Try.func78, Try.ntmps78
      go_wp2_with (first | (go_at_call 59; refine (sViewOk_c _ v _ (h.ext (by repeat' (first | (with_reducible exact Ext.refl _) | (with_reducible assumption) | (with_reducible refine Ext.drewN ?_ _) | (with_reducible refine Ext.drew ?_) | (with_reducible refine Ext.alloc ?_ _) | (with_reducible refine Ext.setCell ?_ ?_ _) | (with_reducible exact Nat.le_refl _) | (with_reducible refine Ext.trans ?_ (by assumption)) | omega)))).mono ?_; rintro e w1 ⟨rfl, hx1⟩; rw [hb]; have hz1 := hx1.size; obtain ⟨hc1, hf1⟩ := hx1.cells; (repeat (first | simp only [World.size_alloc] at hz1 hc1 hf1 | simp only [World.size_setCell] at hz1 hc1 hf1)); have hy1_0 : w.heap.size < w1.heap.size := (by omega)) | (go_at_call 43; refine (l16Time_c _ _).mono ?_; rintro e wt ⟨rfl, rfl⟩; try rw [ht]) | (go_at_call 104; refine (l1Max_c _ _ _).mono ?_; rintro e wm ⟨rfl, rfl⟩))
      all_goals
        go_ret
        refine ⟨by first | rfl | (simp; done) | (simp; omega), ?_⟩
        repeat' (first | (with_reducible exact Ext.refl _) | (with_reducible assumption) | (with_reducible refine Ext.drewN ?_ _) | (with_reducible refine Ext.drew ?_) | (with_reducible refine Ext.alloc ?_ _) | (with_reducible refine Ext.setCell ?_ ?_ _) | (with_reducible exact Nat.le_refl _) | (with_reducible refine Ext.trans ?_ (by assumption)) | omega)

set_option maxHeartbeats 800000 in
theorem guessOf_c (w : World) (v : DView) (s : Value) (now : Int) (h : Ints 2 w s (dues v.Jobs.Open)) : Calls Try.prog 105 #[.agg #[.int .i64 v.Jobs.Index, .int .i64 v.Jobs.Time, .int .i64 v.Jobs.Holder, .int .i64 v.Jobs.Epoch, .int .i64 v.Jobs.Until, s], .int .i64 now] w (RetV w (.int .i64 (guessOf v now))) := by
  obtain ⟨a, n, c, rfl⟩ := h.shape
  cases hb : jobsOk2 v.Jobs
  · have hv : guessOf v now = -1 := by simp [guessOf, hb]
    rw [hv]
    clear hv
    go_enter Try.func105, Try.ntmps105
    go_wp2_with (first | (go_at_call 64; refine (viewOk_c _ v _ (h.ext (by repeat' (first | (with_reducible exact Ext.refl _) | (with_reducible assumption) | (with_reducible refine Ext.drewN ?_ _) | (with_reducible refine Ext.drew ?_) | (with_reducible refine Ext.alloc ?_ _) | (with_reducible refine Ext.setCell ?_ ?_ _) | (with_reducible exact Nat.le_refl _) | (with_reducible refine Ext.trans ?_ (by assumption)) | omega)))).mono ?_; rintro e w1 ⟨rfl, hx1⟩; rw [hb]; have hz1 := hx1.size; obtain ⟨hc1, hf1⟩ := hx1.cells; (repeat (first | simp only [World.size_alloc] at hz1 hc1 hf1 | simp only [World.size_setCell] at hz1 hc1 hf1)); have hy1_0 : w.heap.size < w1.heap.size := (by omega)) | (go_at_call 79; refine (timeOk_c _ _).mono ?_; rintro e wt ⟨rfl, rfl⟩; try rw [ht]))
    all_goals
      go_ret
      refine ⟨rfl, ?_⟩
      repeat' (first | (with_reducible exact Ext.refl _) | (with_reducible assumption) | (with_reducible refine Ext.drewN ?_ _) | (with_reducible refine Ext.drew ?_) | (with_reducible refine Ext.alloc ?_ _) | (with_reducible refine Ext.setCell ?_ ?_ _) | (with_reducible exact Nat.le_refl _) | (with_reducible refine Ext.trans ?_ (by assumption)) | omega)
  · cases ht : timeOk now
    · have hv : guessOf v now = -1 := by simp [guessOf, hb, ht]
      rw [hv]
      clear hv
      go_enter Try.func105, Try.ntmps105
      go_wp2_with (first | (go_at_call 64; refine (viewOk_c _ v _ (h.ext (by repeat' (first | (with_reducible exact Ext.refl _) | (with_reducible assumption) | (with_reducible refine Ext.drewN ?_ _) | (with_reducible refine Ext.drew ?_) | (with_reducible refine Ext.alloc ?_ _) | (with_reducible refine Ext.setCell ?_ ?_ _) | (with_reducible exact Nat.le_refl _) | (with_reducible refine Ext.trans ?_ (by assumption)) | omega)))).mono ?_; rintro e w1 ⟨rfl, hx1⟩; rw [hb]; have hz1 := hx1.size; obtain ⟨hc1, hf1⟩ := hx1.cells; (repeat (first | simp only [World.size_alloc] at hz1 hc1 hf1 | simp only [World.size_setCell] at hz1 hc1 hf1)); have hy1_0 : w.heap.size < w1.heap.size := (by omega)) | (go_at_call 79; refine (timeOk_c _ _).mono ?_; rintro e wt ⟨rfl, rfl⟩; try rw [ht]))
      all_goals
        go_ret
        refine ⟨rfl, ?_⟩
        repeat' (first | (with_reducible exact Ext.refl _) | (with_reducible assumption) | (with_reducible refine Ext.drewN ?_ _) | (with_reducible refine Ext.drew ?_) | (with_reducible refine Ext.alloc ?_ _) | (with_reducible refine Ext.setCell ?_ ?_ _) | (with_reducible exact Nat.le_refl _) | (with_reducible refine Ext.trans ?_ (by assumption)) | omega)
    · have hv : guessOf v now = max v.Jobs.Time now := by simp [guessOf, hb, ht]
      rw [hv]
      clear hv
      go_enter Try.func105, Try.ntmps105
      go_wp2_with (first | (go_at_call 64; refine (viewOk_c _ v _ (h.ext (by repeat' (first | (with_reducible exact Ext.refl _) | (with_reducible assumption) | (with_reducible refine Ext.drewN ?_ _) | (with_reducible refine Ext.drew ?_) | (with_reducible refine Ext.alloc ?_ _) | (with_reducible refine Ext.setCell ?_ ?_ _) | (with_reducible exact Nat.le_refl _) | (with_reducible refine Ext.trans ?_ (by assumption)) | omega)))).mono ?_; rintro e w1 ⟨rfl, hx1⟩; rw [hb]; have hz1 := hx1.size; obtain ⟨hc1, hf1⟩ := hx1.cells; (repeat (first | simp only [World.size_alloc] at hz1 hc1 hf1 | simp only [World.size_setCell] at hz1 hc1 hf1)); have hy1_0 : w.heap.size < w1.heap.size := (by omega)) | (go_at_call 79; refine (timeOk_c _ _).mono ?_; rintro e wt ⟨rfl, rfl⟩; try rw [ht]) | fail)
      all_goals
        go_ret
        refine ⟨by first | rfl | (simp; done) | (simp; omega), ?_⟩
        repeat' (first | (with_reducible exact Ext.refl _) | (with_reducible assumption) | (with_reducible refine Ext.drewN ?_ _) | (with_reducible refine Ext.drew ?_) | (with_reducible refine Ext.alloc ?_ _) | (with_reducible refine Ext.setCell ?_ ?_ _) | (with_reducible exact Nat.le_refl _) | (with_reducible refine Ext.trans ?_ (by assumption)) | omega)

end Go.Proofs.Ythegnmdknenefaa
