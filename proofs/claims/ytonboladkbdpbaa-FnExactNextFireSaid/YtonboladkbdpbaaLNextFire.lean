/- The statement's walk: FnExactNextFire. -/
import Derived.Test.YtonboladkbdpbaaV9
import Derived.Test.YtonboladkbdpbaaHelpB
namespace Go.Proofs.Ytonboladkbdpbaa
open Go.RowKit Go.G8

set_option maxHeartbeats 1600000 in
theorem law_NextFire (w : World) (c0 c1 c2 c3 c4 : Int) (s5 : Value) (l : List DDue) (h5 : Ints 2 w s5 (dues l)) (now : Int) : Calls Try.prog 6 #[.agg #[.int .i64 c0, .int .i64 c1, .int .i64 c2, .int .i64 c3, .int .i64 c4, s5], .int .i64 now] w (RetV w (.bool true)) := by
  obtain ⟨a5, n5, k5, rfl⟩ := h5.shape
  obtain ⟨j, rfl, rfl, rfl, rfl, rfl, rfl⟩ : ∃ j : DJobs, c0 = j.Index ∧ c1 = j.Time ∧ c2 = j.Holder ∧ c3 = j.Epoch ∧ c4 = j.Until ∧ l = j.Open := ⟨⟨c0, c1, c2, c3, c4, l⟩, rfl, rfl, rfl, rfl, rfl, rfl⟩
  go_enter Try.func6, Try.ntmps6
  go_wp2_with fail
  refine (szView_c _ _ _ _ _ _ _ _ _ (length_dues _) _ (h5.ext (by repeat' (first | (with_reducible exact Ext.refl _) | (with_reducible assumption) | (with_reducible refine Ext.drewN ?_ _) | (with_reducible refine Ext.drew ?_) | (with_reducible refine Ext.alloc ?_ _) | (with_reducible refine Ext.setCell ?_ ?_ _) | (with_reducible exact Nat.le_refl _) | (with_reducible refine Ext.trans ?_ (by assumption)) | omega))) (by omega) (by omega)).mono ?_
  rintro e w1 ⟨v1, rfl, hx1, hv⟩
  have hz1 := hx1.size; obtain ⟨hc1, hf1⟩ := hx1.cells; (repeat (first | simp only [World.size_alloc] at hz1 hc1 hf1 | simp only [World.size_setCell] at hz1 hc1 hf1)); have hy1_0 : w.heap.size < w1.heap.size := (by omega)
  rcases hv with ⟨rfl, q1⟩ | ⟨rfl, q1⟩
  · go_wp2
    go_ret
    refine ⟨rfl, ?_⟩
    repeat' (first | (with_reducible exact Ext.refl _) | (with_reducible assumption) | (with_reducible refine Ext.drewN ?_ _) | (with_reducible refine Ext.drew ?_) | (with_reducible refine Ext.alloc ?_ _) | (with_reducible refine Ext.setCell ?_ ?_ _) | (with_reducible exact Nat.le_refl _) | (with_reducible refine Ext.trans ?_ (by assumption)) | omega)
  · have hq1 : j.Open.length ≤ 1048576 := by omega
    go_wp2_with fail
    refine (toView_c _ _ _ _ _ _ _ _ _ (length_dues _) (h5.ext (by repeat' (first | (with_reducible exact Ext.refl _) | (with_reducible assumption) | (with_reducible refine Ext.drewN ?_ _) | (with_reducible refine Ext.drew ?_) | (with_reducible refine Ext.alloc ?_ _) | (with_reducible refine Ext.setCell ?_ ?_ _) | (with_reducible exact Nat.le_refl _) | (with_reducible refine Ext.trans ?_ (by assumption)) | omega))) hq1).mono ?_
    rintro e w2 ⟨_, rfl, hx2, t2, rfl, g2⟩
    obtain ⟨a2, n2, k2, rfl⟩ := g2.shape
    have hz2 := hx2.size; obtain ⟨hc2, hf2⟩ := hx2.cells; (repeat (first | simp only [World.size_alloc] at hz2 hc2 hf2 | simp only [World.size_setCell] at hz2 hc2 hf2)); have hy2_0 : w.heap.size < w2.heap.size := (by omega)
    go_wp2_with fail
    refine (sNextFire_c _ ⟨j⟩ _ now (g2.ints.ext (by repeat' (first | (with_reducible exact Ext.refl _) | (with_reducible assumption) | (with_reducible refine Ext.drewN ?_ _) | (with_reducible refine Ext.drew ?_) | (with_reducible refine Ext.alloc ?_ _) | (with_reducible refine Ext.setCell ?_ ?_ _) | (with_reducible exact Nat.le_refl _) | (with_reducible refine Ext.trans ?_ (by assumption)) | omega)))).mono ?_
    rintro e w3 ⟨rfl, hx3⟩
    have hz3 := hx3.size; obtain ⟨hc3, hf3⟩ := hx3.cells; (repeat (first | simp only [World.size_alloc] at hz3 hc3 hf3 | simp only [World.size_setCell] at hz3 hc3 hf3)); have hy3_0 : w.heap.size < w3.heap.size := (by omega)
    go_wp2_with fail
    refine (toView_c _ _ _ _ _ _ _ _ _ (length_dues _) (h5.ext (by repeat' (first | (with_reducible exact Ext.refl _) | (with_reducible assumption) | (with_reducible refine Ext.drewN ?_ _) | (with_reducible refine Ext.drew ?_) | (with_reducible refine Ext.alloc ?_ _) | (with_reducible refine Ext.setCell ?_ ?_ _) | (with_reducible exact Nat.le_refl _) | (with_reducible refine Ext.trans ?_ (by assumption)) | omega))) hq1).mono ?_
    rintro e w4 ⟨_, rfl, hx4, t4, rfl, g4⟩
    obtain ⟨a4, n4, k4, rfl⟩ := g4.shape
    have hz4 := hx4.size; obtain ⟨hc4, hf4⟩ := hx4.cells; (repeat (first | simp only [World.size_alloc] at hz4 hc4 hf4 | simp only [World.size_setCell] at hz4 hc4 hf4)); have hy4_0 : w.heap.size < w4.heap.size := (by omega)
    go_wp2_with fail
    refine (nextFire_c _ ⟨j⟩ _ now (g4.ints.ext (by repeat' (first | (with_reducible exact Ext.refl _) | (with_reducible assumption) | (with_reducible refine Ext.drewN ?_ _) | (with_reducible refine Ext.drew ?_) | (with_reducible refine Ext.alloc ?_ _) | (with_reducible refine Ext.setCell ?_ ?_ _) | (with_reducible exact Nat.le_refl _) | (with_reducible refine Ext.trans ?_ (by assumption)) | omega)))).mono ?_
    rintro e w5 ⟨rfl, hx5⟩
    have hz5 := hx5.size; obtain ⟨hc5, hf5⟩ := hx5.cells; (repeat (first | simp only [World.size_alloc] at hz5 hc5 hf5 | simp only [World.size_setCell] at hz5 hc5 hf5)); have hy5_0 : w.heap.size < w5.heap.size := (by omega)
    go_wp2_with fail
    obtain ⟨E0, E1, E2, E4⟩ : Ext w w5 ∧ Ext (w.alloc (.cells #[.int .i64 j.Index, .int .i64 j.Time, .int .i64 j.Holder, .int .i64 j.Epoch, .int .i64 j.Until, .slice a5 n5 k5] 26)) w5 ∧ Ext (w4.alloc (.cells #[.int .i64 j.Index, .int .i64 j.Time, .int .i64 j.Holder, .int .i64 j.Epoch, .int .i64 j.Until, .slice a4 n4 k4] 33)) w5 ∧ Ext w4 w5 := by
      refine ⟨?_, ?_, ?_, ?_⟩
      all_goals repeat' (first | (with_reducible exact Ext.refl _) | (with_reducible assumption) | (with_reducible refine Ext.drewN ?_ _) | (with_reducible refine Ext.drew ?_) | (with_reducible refine Ext.alloc ?_ _) | (with_reducible refine Ext.setCell ?_ ?_ _) | (with_reducible exact Nat.le_refl _) | (with_reducible refine Ext.trans ?_ (by assumption)) | omega)
    have p0 : ∀ w', Ext w5 w' → w'.cell? ⟨w.heap.size, 0, none⟩ = some (.int .i64 j.Index) := fun w' hw => (E1.trans hw).cell (by simp)
    have p1 : ∀ w', Ext w5 w' → w'.cell? ⟨w.heap.size, 1, none⟩ = some (.int .i64 j.Time) := fun w' hw => (E1.trans hw).cell (by simp)
    have p2 : ∀ w', Ext w5 w' → w'.cell? ⟨w.heap.size, 2, none⟩ = some (.int .i64 j.Holder) := fun w' hw => (E1.trans hw).cell (by simp)
    have p3 : ∀ w', Ext w5 w' → w'.cell? ⟨w.heap.size, 3, none⟩ = some (.int .i64 j.Epoch) := fun w' hw => (E1.trans hw).cell (by simp)
    have p4 : ∀ w', Ext w5 w' → w'.cell? ⟨w.heap.size, 4, none⟩ = some (.int .i64 j.Until) := fun w' hw => (E1.trans hw).cell (by simp)
    have p5 : ∀ w', Ext w5 w' → w'.cell? ⟨w.heap.size, 5, none⟩ = some (.slice a5 n5 k5) := fun w' hw => (E1.trans hw).cell (by simp)
    have q0 : ∀ w', Ext w5 w' → w'.cell? ⟨w4.heap.size, 0, none⟩ = some (.int .i64 j.Index) := fun w' hw => (E2.trans hw).cell (by simp)
    have q1 : ∀ w', Ext w5 w' → w'.cell? ⟨w4.heap.size, 1, none⟩ = some (.int .i64 j.Time) := fun w' hw => (E2.trans hw).cell (by simp)
    have q2 : ∀ w', Ext w5 w' → w'.cell? ⟨w4.heap.size, 2, none⟩ = some (.int .i64 j.Holder) := fun w' hw => (E2.trans hw).cell (by simp)
    have q3 : ∀ w', Ext w5 w' → w'.cell? ⟨w4.heap.size, 3, none⟩ = some (.int .i64 j.Epoch) := fun w' hw => (E2.trans hw).cell (by simp)
    have q4 : ∀ w', Ext w5 w' → w'.cell? ⟨w4.heap.size, 4, none⟩ = some (.int .i64 j.Until) := fun w' hw => (E2.trans hw).cell (by simp)
    have q5 : ∀ w', Ext w5 w' → w'.cell? ⟨w4.heap.size, 5, none⟩ = some (.slice a4 n4 k4) := fun w' hw => (E2.trans hw).cell (by simp)
    clear hc1 hf1 hc2 hf2 hc3 hf3 hc4 hf4 hc5 hf5 E1 E2
    go_region_held3 (fun w' => Ext w5 w') (first | exact Ext.drew (Ext.refl _) | exact Ext.trans (by assumption) hx6 | exact Ext.trans (by assumption) hx7) (first | (go_at_call 11; refine (toView_c _ _ _ _ _ _ _ _ _ (length_dues _) (h5.ext (Ext.trans E0 (by assumption))) hq1).mono ?_; rintro e w6 ⟨_, rfl, hx6, t6, rfl, g6⟩; obtain ⟨a6, n6, k6, rfl⟩ := g6.shape) | (go_at_call 13; refine (eqView_c _ _ _ _ _ _ _ _ _ (g4.ints.ext (Ext.trans E4 (by assumption))) (g6.ints)).mono ?_; rintro e w7 ⟨rfl, hx7⟩))
    go_wp2
    go_ret
    exact ⟨rfl, E0.trans (by assumption)⟩
end Go.Proofs.Ytonboladkbdpbaa
