/- Views: what fires next. -/
import Derived.Test.YthegnmdknenefaaV8
namespace Go.Proofs.Ythegnmdknenefaa
open Go.RowKit Go.G8

theorem dueIds_head {l : List DDue} {G : Int} {k : Nat} {d : DDue} (hd : l[k]? = some d) (h : 0 ≤ G) (h' : d.Due ≤ G) (h0 : dueIds (l.take k) G = []) : ∃ r, dueIds l G = d.Id :: r := by
  have h1 := dueIds_yes hd h h'
  rw [h0, List.nil_append] at h1
  refine ⟨dueIds (l.drop (k + 1)) G, ?_⟩
  have h2 : dueIds l G = dueIds (l.take (k + 1)) G ++ dueIds (l.drop (k + 1)) G := by
    simp only [dueIds, show ¬ G < 0 by omega, if_false]
    rw [← List.map_append, ← List.filter_append, List.take_append_drop]
  rw [h2, h1]
  rfl

set_option maxHeartbeats 800000 in
theorem sNextFire_c (w : World) (v : DView) (s : Value) (now : Int) (h : Ints 2 w s (dues v.Jobs.Open)) : Calls Try.prog 45 #[.agg #[.int .i64 v.Jobs.Index, .int .i64 v.Jobs.Time, .int .i64 v.Jobs.Holder, .int .i64 v.Jobs.Epoch, .int .i64 v.Jobs.Until, s], .int .i64 now] w (RetV w (.tuple #[.int .i64 ((dueIds v.Jobs.Open (guessOf v now)).headD 0), .bool (decide (0 < (dueIds v.Jobs.Open (guessOf v now)).length))])) := by
  obtain ⟨a, n, c, rfl⟩ := h.shape
  go_enter Try.func45, Try.ntmps45
  go_wp2_with fail
  refine (l20Due_c _ v _ _ (h.ext (by repeat' (first | (with_reducible exact Ext.refl _) | (with_reducible assumption) | (with_reducible refine Ext.drewN ?_ _) | (with_reducible refine Ext.drew ?_) | (with_reducible refine Ext.alloc ?_ _) | (with_reducible refine Ext.setCell ?_ ?_ _) | (with_reducible exact Nat.le_refl _) | (with_reducible refine Ext.trans ?_ (by assumption)) | omega)))).mono ?_
  rintro e w1 ⟨_, rfl, hx1, hown⟩
  generalize hd : dueIds v.Jobs.Open (guessOf v now) = l at hown
  have HD := Lib.hid hd
  clear hd
  obtain ⟨a1, n1, c1, rfl, hl, _, hm, hc⟩ := hown.ints.open_
  clear hown
  cases l with
  | nil =>
    obtain rfl : n1 = 0 := by simpa using hl.symm
    clear hc
    go_wp2
    go_ret2
    refine ⟨by rw [HD.out]; rfl, ?_⟩
    repeat' (first | (with_reducible exact Ext.refl _) | (with_reducible assumption) | (with_reducible refine Ext.drewN ?_ _) | (with_reducible refine Ext.drew ?_) | (with_reducible refine Ext.alloc ?_ _) | (with_reducible refine Ext.setCell ?_ ?_ _) | (with_reducible exact Nat.le_refl _) | (with_reducible refine Ext.trans ?_ (by assumption)) | omega)
  | cons x xs =>
    obtain rfl : n1 = xs.length + 1 := by simpa using hl.symm
    obtain ⟨b1, o1, rfl, hb, hcc⟩ := hc 0 (by omega)
    obtain ⟨x0, hx0, d0⟩ := hcc 0 (by omega)
    obtain rfl : x = x0 := by simpa using hx0
    simp only [Nat.zero_mul, Nat.add_zero] at d0
    clear hc hcc hl hx0
    go_wp2
    all_goals
      go_ret2
      refine ⟨by rw [HD.out]; simp, ?_⟩
      repeat' (first | (with_reducible exact Ext.refl _) | (with_reducible assumption) | (with_reducible refine Ext.drewN ?_ _) | (with_reducible refine Ext.drew ?_) | (with_reducible refine Ext.alloc ?_ _) | (with_reducible refine Ext.setCell ?_ ?_ _) | (with_reducible exact Nat.le_refl _) | (with_reducible refine Ext.trans ?_ (by assumption)) | omega)
set_option maxHeartbeats 1600000 in
theorem nextFire_c (w : World) (v : DView) (s : Value) (now : Int) (h : Ints 2 w s (dues v.Jobs.Open)) : Calls Try.prog 82 #[.agg #[.int .i64 v.Jobs.Index, .int .i64 v.Jobs.Time, .int .i64 v.Jobs.Holder, .int .i64 v.Jobs.Epoch, .int .i64 v.Jobs.Until, s], .int .i64 now] w (RetV w (.tuple #[.int .i64 ((dueIds v.Jobs.Open (guessOf v now)).headD 0), .bool (decide (0 < (dueIds v.Jobs.Open (guessOf v now)).length))])) := by
  obtain ⟨a, cap, rfl, hcap, hm, ha⟩ := h.recs (f := DDue.ints) (fun _ => rfl) (by decide)
  generalize hg : guessOf v now = G
  have HA := Lib.hid ha
  clear ha
  unfold maxLen at hm
  go_enter Try.func82, Try.ntmps82
  go_wp2_with fail
  go_step3
  go_wp2_with fail
  refine (guessOf_c _ v _ _ (h.ext (by repeat' (first | (with_reducible exact Ext.refl _) | (with_reducible assumption) | (with_reducible refine Ext.drewN ?_ _) | (with_reducible refine Ext.drew ?_) | (with_reducible refine Ext.alloc ?_ _) | (with_reducible refine Ext.setCell ?_ ?_ _) | (with_reducible exact Nat.le_refl _) | (with_reducible refine Ext.trans ?_ (by assumption)) | omega)))).mono ?_
  rintro e w1 ⟨rfl, hx1⟩
  rw [hg]
  obtain ⟨W0, hW0⟩ : ∃ W0, W0 = w.alloc (.cells #[.int .i64 v.Jobs.Index, .int .i64 v.Jobs.Time, .int .i64 v.Jobs.Holder, .int .i64 v.Jobs.Epoch, .int .i64 v.Jobs.Until, .slice a v.Jobs.Open.length cap] 41) := ⟨_, rfl⟩
  rw [← hW0] at hx1
  have hE0 : Ext w W0 := by rw [hW0]; exact (Ext.refl _).alloc _
  have jb0 : W0.cell? ⟨w.heap.size, 5, none⟩ = some (.slice a v.Jobs.Open.length cap) := by rw [hW0]; simp
  have jb1 := hx1.cell jb0
  clear hW0
  go_wp2_with fail
  go_step3
  go_wp2_with fail
  go_loopw [18, 7, 8] (fun i m b wr => ∃ k : Nat, k ≤ v.Jobs.Open.length ∧ i = .int .i64 k ∧ m = .int .i64 0 ∧ b = .bool false ∧ Ext W0 wr ∧ dueIds (v.Jobs.Open.take k) G = []) (fun i _ _ _ => v.Jobs.Open.length - (intOf i).toNat)
  case atStart => exact ⟨0, Nat.zero_le _, rfl, rfl, rfl, hx1, by simp [dueIds]⟩
  case round =>
    obtain ⟨k, hk, rfl, rfl, rfl, he, hn⟩ := hrel
    have jb := he.cell jb0
    have HN := Lib.hid hn
    clear hn
    by_cases hlt : k < v.Jobs.Open.length
    · obtain ⟨d, b1, o1, hd, rfl, hb1, c⟩ := HA.out k hlt
      have d0 := (hE0.trans he).cell (c 0 _ (by decide) rfl)
      have d1 := (hE0.trans he).cell (c 1 _ (by decide) rfl)
      simp only [Nat.add_zero] at d0
      have HD := Lib.hid hd
      clear c hd
      go_wp2
      · rw [Exit.noGoto_ret]
        go_ret2
        exact ⟨by rw [dueIds_neg (by assumption)]; rfl, hE0.trans (he.alloc _)⟩
      · rw [Exit.noGoto_ret]
        go_ret2
        obtain ⟨r, hr⟩ := dueIds_head HD.out (by assumption) (by assumption) HN.out
        exact ⟨by rw [hr]; simp, hE0.trans (he.alloc _)⟩
      · go_roundw
        case rel => exact ⟨k + 1, by omega, by go_num, rfl, rfl, he.alloc _, by rw [dueIds_no HD.out (by omega)]; exact HN.out⟩
        case measure => simp [intOf]; omega
    · obtain rfl : k = v.Jobs.Open.length := by omega
      go_wp2
      rw [Exit.noGoto_ret]
      go_ret2
      have hn := HN.out
      rw [List.take_length] at hn
      exact ⟨by rw [hn]; rfl, hE0.trans he⟩
end Go.Proofs.Ythegnmdknenefaa
