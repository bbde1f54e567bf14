/- Views: what is due. -/
import Derived.Test.YthegnmdknenefaaV7
import Derived.Test.YthegnmdknenefaaApp
namespace Go.Proofs.Ythegnmdknenefaa
open Go.RowKit Go.G8

def dueIds (l : List DDue) (G : Int) : List Int := if G < 0 then [] else (l.filter (fun d => decide (d.Due ≤ G))).map DDue.Id
theorem dueIds_neg {l : List DDue} {G : Int} (h : G < 0) : dueIds l G = [] := by simp [dueIds, h]
theorem dueIds_yes {l : List DDue} {G : Int} {k : Nat} {d : DDue} (hd : l[k]? = some d) (h : 0 ≤ G) (h' : d.Due ≤ G) : dueIds (l.take (k + 1)) G = dueIds (l.take k) G ++ [d.Id] := by
  rw [List.take_add_one, hd]
  simp [dueIds, h', show ¬ G < 0 by omega]
theorem dueIds_no {l : List DDue} {G : Int} {k : Nat} {d : DDue} (hd : l[k]? = some d) (h' : ¬ d.Due ≤ G) : dueIds (l.take (k + 1)) G = dueIds (l.take k) G := by
  rw [List.take_add_one, hd]
  simp [dueIds, h']
theorem dueIds_len (l : List DDue) (G : Int) : (dueIds l G).length ≤ l.length := by
  unfold dueIds
  split
  · simp
  · simpa using List.length_filter_le _ l

theorem guess_len {v : DView} {now : Int} (h : 0 ≤ guessOf v now) : v.Jobs.Open.length ≤ 8 := by
  unfold guessOf at h
  split at h
  · rename_i hh
    simp only [Bool.and_eq_true, jobsOk2] at hh
    exact (openOk_iff.1 hh.1.2.2.2.2.2).1
  · omega

set_option maxHeartbeats 1600000 in
set_option maxRecDepth 100000 in
theorem l20Due_c (w : World) (v : DView) (s : Value) (now : Int) (h : Ints 2 w s (dues v.Jobs.Open)) : Calls Try.prog 77 #[.agg #[.int .i64 v.Jobs.Index, .int .i64 v.Jobs.Time, .int .i64 v.Jobs.Holder, .int .i64 v.Jobs.Epoch, .int .i64 v.Jobs.Until, s], .int .i64 now] w (Ret w fun s' w' => OwnI w.heap.size 2 1 w' s' (dueIds v.Jobs.Open (guessOf v now))) := by
  obtain ⟨a, cap, rfl, hcap, hm, ha⟩ := h.recs (f := DDue.ints) (fun _ => rfl) (by decide)
  have h8 := @guess_len v now
  generalize hg : guessOf v now = G at h8
  have H8 := Lib.hid h8
  clear h8
  have HA := Lib.hid ha
  clear ha
  unfold maxLen at hm
  obtain ⟨i0, hi, hz0, hz1, hz2⟩ := info_parts info_Int64
  go_enter Try.func77, Try.ntmps77
  go_wp2_with fail
  refine (sGuessOf_c _ v _ _ (h.ext (by repeat' (first | (with_reducible exact Ext.refl _) | (with_reducible assumption) | (with_reducible refine Ext.drewN ?_ _) | (with_reducible refine Ext.drew ?_) | (with_reducible refine Ext.alloc ?_ _) | (with_reducible refine Ext.setCell ?_ ?_ _) | (with_reducible exact Nat.le_refl _) | (with_reducible refine Ext.trans ?_ (by assumption)) | omega)))).mono ?_
  rintro e w1 ⟨rfl, hx1⟩
  rw [hg]
  obtain ⟨W0, hW0⟩ : ∃ W0, W0 = w.alloc (.cells #[.int .i64 v.Jobs.Index, .int .i64 v.Jobs.Time, .int .i64 v.Jobs.Holder, .int .i64 v.Jobs.Epoch, .int .i64 v.Jobs.Until, .slice a v.Jobs.Open.length cap] 41) := ⟨_, rfl⟩
  rw [← hW0] at hx1
  have hs0 : W0.heap.size = w.heap.size + 1 := by rw [hW0]; simp
  have hE0 : Ext w W0 := by rw [hW0]; exact (Ext.refl _).alloc _
  have hE1 : Ext W0 w1 := Ext.trans ((Ext.refl _).alloc _) hx1
  have jb0 : W0.cell? ⟨w.heap.size, 5, none⟩ = some (.slice a v.Jobs.Open.length cap) := by rw [hW0]; simp
  have hown0 : OwnI (w.heap.size + 1) 2 1 w1 (.slice (some ⟨w.heap.size + 1, 0, none⟩) 0 0) [] := by
    rw [← hs0]
    exact Own.ext (Own.of_blk (cap := 0) (Blk.new W0 2 #[]) (Nat.le_refl _) rfl rfl (Nat.le_refl _) (by decide) (Pre.zero _ _)) hx1
  clear hW0 hx1
  go_wp2_with fail
  go_loopw [5, 7] (fun s i wr => ∃ k : Nat, k ≤ v.Jobs.Open.length ∧ i = .int .i64 k ∧ Ext W0 wr ∧ OwnI (w.heap.size + 1) 2 1 wr s (dueIds (v.Jobs.Open.take k) G)) (fun _ i _ => v.Jobs.Open.length - (intOf i).toNat)
  case atStart => exact ⟨0, Nat.zero_le _, rfl, hE1, by simpa [dueIds] using hown0⟩
  case round =>
    obtain ⟨k, hk, rfl, he, hown⟩ := hrel
    obtain ⟨a1, n1, c1, rfl⟩ := hown.shape
    have jb := he.cell jb0
    have hsz := he.size
    by_cases hlt : k < v.Jobs.Open.length
    · obtain ⟨d, b1, o1, hd, rfl, hb1, c⟩ := HA.out k hlt
      have d0 := (hE0.trans he).cell (c 0 _ (by decide) rfl)
      have d1 := (hE0.trans he).cell (c 1 _ (by decide) rfl)
      simp only [Nat.add_zero] at d0
      have HD := Lib.hid hd
      have hdl := dueIds_len (v.Jobs.Open.take k) G
      simp only [List.length_take] at hdl
      clear c hd
      go_wp2_with (first | (at_builtin; (have h8 := H8.out (by assumption); refine wp_append rfl _ _ 83 rfl 2 i0 _ 1 8 Try.underlying83 hi hz0 hz1 hz2 rfl (by decide) (w.heap.size + 1) _ _ rfl (Own.ext hown ((Ext.refl _).alloc _)) _ ([d.Id].map (.int .i64)) rfl (Sl.one wr #[.int .i64 d.Id] _ 1 rfl) (ints_oneCell _ _) (k + 1) (by simp only [List.length_map, List.length_cons, List.length_nil]; omega) (by unfold maxLen; omega) (by omega) (by simp; omega) W0 (he.alloc _) (by omega) ?_); rotate_right; intro v1 wa hown1 hea _))
      · go_roundw
        case rel => exact ⟨k + 1, by omega, by go_num, hea, by rw [dueIds_yes HD.out (by assumption) (by assumption)]; simpa [OwnI] using hown1⟩
        case measure => simp [intOf]; omega
      · go_roundw
        case rel => exact ⟨k + 1, by omega, by go_num, he, by rw [dueIds_no HD.out (by omega)]; exact hown⟩
        case measure => simp [intOf]; omega
      · go_ret
        refine ⟨_, rfl, hE0.trans he, ?_⟩
        have hn : G < 0 := by assumption
        rw [dueIds_neg hn] at hown ⊢
        exact hown.mono (by omega)
    · obtain rfl : k = v.Jobs.Open.length := by omega
      go_wp2
      go_ret
      refine ⟨_, rfl, hE0.trans he, ?_⟩
      rw [List.take_length] at hown
      exact hown.mono (by omega)
end Go.Proofs.Ythegnmdknenefaa
