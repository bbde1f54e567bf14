/- Views: free, and held by one. -/
import Derived.Test.YthegnmdknenefaaV6
namespace Go.Proofs.Ythegnmdknenefaa
open Go.RowKit Go.G8

noncomputable def freeIn (v : DView) (now : Int) : Bool := decide (0 ≤ guessOf v now) && (decide (v.Jobs.Holder = 0) || decide (v.Jobs.Until ≤ guessOf v now))
noncomputable def holdsIn (v : DView) (id now : Int) : Bool := decide (0 ≤ guessOf v now) && (schedOk id && (decide (v.Jobs.Holder = id) && decide (guessOf v now < v.Jobs.Until)))

set_option maxHeartbeats 800000 in
theorem sFreeIn_c (w : World) (v : DView) (s : Value) (now : Int) (h : Ints 2 w s (dues v.Jobs.Open)) : Calls Try.prog 47 #[.agg #[.int .i64 v.Jobs.Index, .int .i64 v.Jobs.Time, .int .i64 v.Jobs.Holder, .int .i64 v.Jobs.Epoch, .int .i64 v.Jobs.Until, s], .int .i64 now] w (RetV w (.bool (freeIn v now))) := by
  obtain ⟨a, n, c, rfl⟩ := h.shape
  generalize hg : guessOf v now = G
  have hv : freeIn v now = (decide (0 ≤ G) && (decide (v.Jobs.Holder = 0) || decide (v.Jobs.Until ≤ G))) := by simp [freeIn, hg]
  rw [hv]
  clear hv
  go_enter Try.func47, Try.ntmps47
  go_wp2_with (first | (go_at_call 78; refine (sGuessOf_c _ v _ _ (h.ext (by repeat' (first | (with_reducible exact Ext.refl _) | (with_reducible assumption) | (with_reducible refine Ext.drewN ?_ _) | (with_reducible refine Ext.drew ?_) | (with_reducible refine Ext.alloc ?_ _) | (with_reducible refine Ext.setCell ?_ ?_ _) | (with_reducible exact Nat.le_refl _) | (with_reducible refine Ext.trans ?_ (by assumption)) | omega)))).mono ?_; rintro e w1 ⟨rfl, hx1⟩; rw [hg]; have hz1 := hx1.size; obtain ⟨hc1, hf1⟩ := hx1.cells; (repeat (first | simp only [World.size_alloc] at hz1 hc1 hf1 | simp only [World.size_setCell] at hz1 hc1 hf1)); have hy1_0 : w.heap.size < w1.heap.size := (by omega)))
  all_goals
    go_ret
    refine ⟨by first | (simp [*]; done) | (simp [*]; omega) | (simp_all; done) | (simp_all; omega), ?_⟩
    repeat' (first | (with_reducible exact Ext.refl _) | (with_reducible assumption) | (with_reducible refine Ext.drewN ?_ _) | (with_reducible refine Ext.drew ?_) | (with_reducible refine Ext.alloc ?_ _) | (with_reducible refine Ext.setCell ?_ ?_ _) | (with_reducible exact Nat.le_refl _) | (with_reducible refine Ext.trans ?_ (by assumption)) | omega)

set_option maxHeartbeats 800000 in
theorem freeIn_c (w : World) (v : DView) (s : Value) (now : Int) (h : Ints 2 w s (dues v.Jobs.Open)) : Calls Try.prog 83 #[.agg #[.int .i64 v.Jobs.Index, .int .i64 v.Jobs.Time, .int .i64 v.Jobs.Holder, .int .i64 v.Jobs.Epoch, .int .i64 v.Jobs.Until, s], .int .i64 now] w (RetV w (.bool (freeIn v now))) := by
  obtain ⟨a, n, c, rfl⟩ := h.shape
  generalize hg : guessOf v now = G
  have hv : freeIn v now = (decide (0 ≤ G) && (decide (v.Jobs.Holder = 0) || decide (v.Jobs.Until ≤ G))) := by simp [freeIn, hg]
  rw [hv]
  clear hv
  go_enter Try.func83, Try.ntmps83
  go_wp2_with (first | (go_at_call 105; refine (guessOf_c _ v _ _ (h.ext (by repeat' (first | (with_reducible exact Ext.refl _) | (with_reducible assumption) | (with_reducible refine Ext.drewN ?_ _) | (with_reducible refine Ext.drew ?_) | (with_reducible refine Ext.alloc ?_ _) | (with_reducible refine Ext.setCell ?_ ?_ _) | (with_reducible exact Nat.le_refl _) | (with_reducible refine Ext.trans ?_ (by assumption)) | omega)))).mono ?_; rintro e w1 ⟨rfl, hx1⟩; rw [hg]; have hz1 := hx1.size; obtain ⟨hc1, hf1⟩ := hx1.cells; (repeat (first | simp only [World.size_alloc] at hz1 hc1 hf1 | simp only [World.size_setCell] at hz1 hc1 hf1)); have hy1_0 : w.heap.size < w1.heap.size := (by omega)))
  all_goals
    go_ret
    refine ⟨by first | (simp [*]; done) | (simp [*]; omega) | (simp_all; done) | (simp_all; omega), ?_⟩
    repeat' (first | (with_reducible exact Ext.refl _) | (with_reducible assumption) | (with_reducible refine Ext.drewN ?_ _) | (with_reducible refine Ext.drew ?_) | (with_reducible refine Ext.alloc ?_ _) | (with_reducible refine Ext.setCell ?_ ?_ _) | (with_reducible exact Nat.le_refl _) | (with_reducible refine Ext.trans ?_ (by assumption)) | omega)

set_option maxHeartbeats 800000 in
theorem sHoldsIn_c (w : World) (v : DView) (s : Value) (id : Int) (now : Int) (h : Ints 2 w s (dues v.Jobs.Open)) : Calls Try.prog 46 #[.agg #[.int .i64 v.Jobs.Index, .int .i64 v.Jobs.Time, .int .i64 v.Jobs.Holder, .int .i64 v.Jobs.Epoch, .int .i64 v.Jobs.Until, s], .int .i64 id, .int .i64 now] w (RetV w (.bool (holdsIn v id now))) := by
  obtain ⟨a, n, c, rfl⟩ := h.shape
  generalize hg : guessOf v now = G
  cases hs : schedOk id
  all_goals
    have hv : holdsIn v id now = (decide (0 ≤ G) && (schedOk id && (decide (v.Jobs.Holder = id) && decide (G < v.Jobs.Until)))) := by simp [holdsIn, hg]
    rw [hv, hs]
    clear hv
    go_enter Try.func46, Try.ntmps46
    go_wp2_with (first | (go_at_call 78; refine (sGuessOf_c _ v _ _ (h.ext (by repeat' (first | (with_reducible exact Ext.refl _) | (with_reducible assumption) | (with_reducible refine Ext.drewN ?_ _) | (with_reducible refine Ext.drew ?_) | (with_reducible refine Ext.alloc ?_ _) | (with_reducible refine Ext.setCell ?_ ?_ _) | (with_reducible exact Nat.le_refl _) | (with_reducible refine Ext.trans ?_ (by assumption)) | omega)))).mono ?_; rintro e w1 ⟨rfl, hx1⟩; rw [hg]; have hz1 := hx1.size; obtain ⟨hc1, hf1⟩ := hx1.cells; (repeat (first | simp only [World.size_alloc] at hz1 hc1 hf1 | simp only [World.size_setCell] at hz1 hc1 hf1)); have hy1_0 : w.heap.size < w1.heap.size := (by omega)) | (go_at_call 57; refine (l16Who_c _ _).mono ?_; rintro e wt ⟨rfl, rfl⟩; try rw [hs]))
    all_goals
      go_ret
      refine ⟨by first | (simp [*]; done) | (simp [*]; omega) | (simp_all; done) | (simp_all; omega), ?_⟩
      repeat' (first | (with_reducible exact Ext.refl _) | (with_reducible assumption) | (with_reducible refine Ext.drewN ?_ _) | (with_reducible refine Ext.drew ?_) | (with_reducible refine Ext.alloc ?_ _) | (with_reducible refine Ext.setCell ?_ ?_ _) | (with_reducible exact Nat.le_refl _) | (with_reducible refine Ext.trans ?_ (by assumption)) | omega)

set_option maxHeartbeats 800000 in
theorem holdsIn_c (w : World) (v : DView) (s : Value) (id : Int) (now : Int) (h : Ints 2 w s (dues v.Jobs.Open)) : Calls Try.prog 81 #[.agg #[.int .i64 v.Jobs.Index, .int .i64 v.Jobs.Time, .int .i64 v.Jobs.Holder, .int .i64 v.Jobs.Epoch, .int .i64 v.Jobs.Until, s], .int .i64 id, .int .i64 now] w (RetV w (.bool (holdsIn v id now))) := by
  obtain ⟨a, n, c, rfl⟩ := h.shape
  generalize hg : guessOf v now = G
  cases hs : schedOk id
  all_goals
    have hv : holdsIn v id now = (decide (0 ≤ G) && (schedOk id && (decide (v.Jobs.Holder = id) && decide (G < v.Jobs.Until)))) := by simp [holdsIn, hg]
    rw [hv, hs]
    clear hv
    go_enter Try.func81, Try.ntmps81
    go_wp2_with (first | (go_at_call 105; refine (guessOf_c _ v _ _ (h.ext (by repeat' (first | (with_reducible exact Ext.refl _) | (with_reducible assumption) | (with_reducible refine Ext.drewN ?_ _) | (with_reducible refine Ext.drew ?_) | (with_reducible refine Ext.alloc ?_ _) | (with_reducible refine Ext.setCell ?_ ?_ _) | (with_reducible exact Nat.le_refl _) | (with_reducible refine Ext.trans ?_ (by assumption)) | omega)))).mono ?_; rintro e w1 ⟨rfl, hx1⟩; rw [hg]; have hz1 := hx1.size; obtain ⟨hc1, hf1⟩ := hx1.cells; (repeat (first | simp only [World.size_alloc] at hz1 hc1 hf1 | simp only [World.size_setCell] at hz1 hc1 hf1)); have hy1_0 : w.heap.size < w1.heap.size := (by omega)) | (go_at_call 62; refine (schedOk_c _ _).mono ?_; rintro e wt ⟨rfl, rfl⟩; try rw [hs]))
    all_goals
      go_ret
      refine ⟨by first | (simp [*]; done) | (simp [*]; omega) | (simp_all; done) | (simp_all; omega), ?_⟩
      repeat' (first | (with_reducible exact Ext.refl _) | (with_reducible assumption) | (with_reducible refine Ext.drewN ?_ _) | (with_reducible refine Ext.drew ?_) | (with_reducible refine Ext.alloc ?_ _) | (with_reducible refine Ext.setCell ?_ ?_ _) | (with_reducible exact Nat.le_refl _) | (with_reducible refine Ext.trans ?_ (by assumption)) | omega)

end Go.Proofs.Ythegnmdknenefaa
