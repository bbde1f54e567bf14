/- Snapshot disks: right or not. -/
import Derived.Test.YtankkbjlneeolaaS2
namespace Go.Proofs.Ytankkbjlneeolaa
open Go.RowKit Go.G8

set_option maxHeartbeats 1600000 in
set_option maxRecDepth 100000 in
theorem sShelfOk_c (w : World) (s0_0 : Value) (l0_0 : List (List Int)) (s0_1 : Value) (l0_1 : List DWrite) (h0_0 : Nest 0 w s0_0 (nestInt64S l0_0)) (h0_1 : Nest 1 w s0_1 (nestWrite l0_1)) :
    Calls Try.prog 49 #[.agg #[s0_0, s0_1]] w (RetV w (.bool (shelfOk (⟨l0_0, l0_1⟩ : DDisk)))) := by
  obtain ⟨a0, cap0, rfl, hc0, hm0, -⟩ := Nest.rows h0_0
  obtain ⟨a1, n1, c1, rfl⟩ := h0_1.shape
  unfold maxLen at hm0
  cases hd : diskOk (⟨l0_0, l0_1⟩ : DDisk)
  all_goals
    go_enter Try.func49, Try.ntmps49
    go_wp2_with (first | (go_at_call 52; refine (sDiskOk_c _ _ _ _ _ (h0_0.ext (by repeat' (first | (with_reducible exact Ext.refl _) | (with_reducible assumption) | (with_reducible refine Ext.drewN ?_ _) | (with_reducible refine Ext.drew ?_) | (with_reducible refine Ext.alloc ?_ _) | (with_reducible refine Ext.setCell ?_ ?_ _) | (with_reducible refine Ext.setRow ?_ ?_ _) | (with_reducible exact Nat.le_refl _) | (with_reducible refine Ext.trans ?_ (by assumption)) | omega))) (h0_1.ext (by repeat' (first | (with_reducible exact Ext.refl _) | (with_reducible assumption) | (with_reducible refine Ext.drewN ?_ _) | (with_reducible refine Ext.drew ?_) | (with_reducible refine Ext.alloc ?_ _) | (with_reducible refine Ext.setCell ?_ ?_ _) | (with_reducible refine Ext.setRow ?_ ?_ _) | (with_reducible exact Nat.le_refl _) | (with_reducible refine Ext.trans ?_ (by assumption)) | omega)))).mono ?_; rintro e w1 ⟨rfl, hx1⟩; rw [hd]; obtain ⟨hcx, _⟩ := hx1.cells; (try simp only [World.size_alloc] at hcx)))
    all_goals
      go_ret
      refine ⟨by first | (simp [shelfOk, hd]; done) | (simp [shelfOk, hd, bq]; omega) | (simp_all [shelfOk, bq]; done) | (simp_all [shelfOk, bq]; omega), ?_⟩
      repeat' (first | (with_reducible exact Ext.refl _) | (with_reducible assumption) | (with_reducible refine Ext.drewN ?_ _) | (with_reducible refine Ext.drew ?_) | (with_reducible refine Ext.alloc ?_ _) | (with_reducible refine Ext.setCell ?_ ?_ _) | (with_reducible refine Ext.setRow ?_ ?_ _) | (with_reducible exact Nat.le_refl _) | (with_reducible refine Ext.trans ?_ (by assumption)) | omega)
set_option maxHeartbeats 1600000 in
set_option maxRecDepth 100000 in
theorem shelfOk_c (w : World) (s0_0 : Value) (l0_0 : List (List Int)) (s0_1 : Value) (l0_1 : List DWrite) (h0_0 : Nest 0 w s0_0 (nestInt64S l0_0)) (h0_1 : Nest 1 w s0_1 (nestWrite l0_1)) :
    Calls Try.prog 59 #[.agg #[s0_0, s0_1]] w (RetV w (.bool (shelfOk (⟨l0_0, l0_1⟩ : DDisk)))) := by
  obtain ⟨a0, cap0, rfl, hc0, hm0, -⟩ := Nest.rows h0_0
  obtain ⟨a1, n1, c1, rfl⟩ := h0_1.shape
  unfold maxLen at hm0
  cases hd : diskOk (⟨l0_0, l0_1⟩ : DDisk)
  all_goals
    go_enter Try.func59, Try.ntmps59
    go_wp2_with (first | (go_at_call 62; refine (diskOk_c _ _ _ _ _ (h0_0.ext (by repeat' (first | (with_reducible exact Ext.refl _) | (with_reducible assumption) | (with_reducible refine Ext.drewN ?_ _) | (with_reducible refine Ext.drew ?_) | (with_reducible refine Ext.alloc ?_ _) | (with_reducible refine Ext.setCell ?_ ?_ _) | (with_reducible refine Ext.setRow ?_ ?_ _) | (with_reducible exact Nat.le_refl _) | (with_reducible refine Ext.trans ?_ (by assumption)) | omega))) (h0_1.ext (by repeat' (first | (with_reducible exact Ext.refl _) | (with_reducible assumption) | (with_reducible refine Ext.drewN ?_ _) | (with_reducible refine Ext.drew ?_) | (with_reducible refine Ext.alloc ?_ _) | (with_reducible refine Ext.setCell ?_ ?_ _) | (with_reducible refine Ext.setRow ?_ ?_ _) | (with_reducible exact Nat.le_refl _) | (with_reducible refine Ext.trans ?_ (by assumption)) | omega)))).mono ?_; rintro e w1 ⟨rfl, hx1⟩; rw [hd]; obtain ⟨hcx, _⟩ := hx1.cells; (try simp only [World.size_alloc] at hcx)))
    all_goals
      go_ret
      refine ⟨by first | (simp [shelfOk, hd]; done) | (simp [shelfOk, hd, bq]; omega) | (simp_all [shelfOk, bq]; done) | (simp_all [shelfOk, bq]; omega), ?_⟩
      repeat' (first | (with_reducible exact Ext.refl _) | (with_reducible assumption) | (with_reducible refine Ext.drewN ?_ _) | (with_reducible refine Ext.drew ?_) | (with_reducible refine Ext.alloc ?_ _) | (with_reducible refine Ext.setCell ?_ ?_ _) | (with_reducible refine Ext.setRow ?_ ?_ _) | (with_reducible exact Nat.le_refl _) | (with_reducible refine Ext.trans ?_ (by assumption)) | omega)

end Go.Proofs.Ytankkbjlneeolaa
