/- Copies of states and stores. -/
import Derived.Test.YtankkbjlneeolaaQ10
set_option linter.unusedSimpArgs false
set_option linter.unusedVariables false
namespace Go.Proofs.Ytankkbjlneeolaa
open Go.RowKit Go.G8

end Go.Proofs.Ytankkbjlneeolaa
namespace Go.G8
open Go.RowKit
def stateSmall (s : DState) : Prop := s.Pairs.length ≤ 1000000 ∧ s.Jobs.length ≤ 1000000
end Go.G8
namespace Go.Proofs.Ytankkbjlneeolaa
open Go.RowKit Go.G8
set_option maxHeartbeats 1600000 in
set_option maxRecDepth 100000 in
theorem l14Copy_c (w : World) (s0_0 : Value) (l0_0 : List DPair) (h0_0 : Ints 2 w s0_0 (flPair l0_0)) (e0 : l0_0.length ≤ 1000000) :
    Calls Try.prog 114 #[s0_0] w (Ret w fun r0 w' => OwnI w.heap.size 111 2 w' r0 (flPair l0_0)) := by
  obtain ⟨a0, n0, k0, rfl⟩ := h0_0.shape
  obtain ⟨i0, hi, hz0, hz1, hz2⟩ := info_parts info_Pair
  go_enter Try.func114, Try.ntmps114
  go_wp2_with (first | (at_builtin; refine wp_append_fresh rfl (.tmp 3) (.tmp 4) 39 rfl 111 i0 _ 2 16 Try.underlying39 hi hz0 hz1 hz2 rfl (by decide) w.heap.size (by simp) rfl (.slice a0 n0 k0) ((flPair l0_0).map (.int .i64)) rfl h0_0 (ints_oneCell _ _) 1000000 (by have := length_flPair l0_0; simp; omega) (by unfold maxLen; omega) (by omega) ?_; rotate_right; intro t5 w1 g5 hx1; obtain ⟨ta5, tn5, tc5, rfl⟩ := g5.sl.shape))
  go_ret
  exact ⟨_, rfl, hx1, g5⟩
set_option maxHeartbeats 1600000 in
set_option maxRecDepth 100000 in
theorem copyPairs_c (w : World) (s0_0 : Value) (l0_0 : List DPair) (h0_0 : Ints 2 w s0_0 (flPair l0_0)) (e0 : l0_0.length ≤ 1000000) :
    Calls Try.prog 116 #[s0_0] w (Ret w fun r0 w' => OwnI w.heap.size 111 2 w' r0 (flPair l0_0)) := by
  obtain ⟨a0, n0, k0, rfl⟩ := h0_0.shape
  obtain ⟨i0, hi, hz0, hz1, hz2⟩ := info_parts info_Pair
  go_enter Try.func116, Try.ntmps116
  go_wp2_with (first | (at_builtin; refine wp_append_fresh rfl (.tmp 3) (.tmp 4) 39 rfl 111 i0 _ 2 16 Try.underlying39 hi hz0 hz1 hz2 rfl (by decide) w.heap.size (by simp) rfl (.slice a0 n0 k0) ((flPair l0_0).map (.int .i64)) rfl h0_0 (ints_oneCell _ _) 1000000 (by have := length_flPair l0_0; simp; omega) (by unfold maxLen; omega) (by omega) ?_; rotate_right; intro t5 w1 g5 hx1; obtain ⟨ta5, tn5, tc5, rfl⟩ := g5.sl.shape))
  go_ret
  exact ⟨_, rfl, hx1, g5⟩
set_option maxHeartbeats 1600000 in
set_option maxRecDepth 100000 in
theorem l15Copy_c (w : World) (s0_0 : Value) (l0_0 : List DJob) (h0_0 : Ints 5 w s0_0 (flJob l0_0)) (e0 : l0_0.length ≤ 1000000) :
    Calls Try.prog 115 #[s0_0] w (Ret w fun r0 w' => OwnI w.heap.size 119 5 w' r0 (flJob l0_0)) := by
  obtain ⟨a0, n0, k0, rfl⟩ := h0_0.shape
  obtain ⟨i0, hi, hz0, hz1, hz2⟩ := info_parts info_Job
  go_enter Try.func115, Try.ntmps115
  go_wp2_with (first | (at_builtin; refine wp_append_fresh rfl (.tmp 3) (.tmp 4) 40 rfl 119 i0 _ 5 40 Try.underlying40 hi hz0 hz1 hz2 rfl (by decide) w.heap.size (by simp) rfl (.slice a0 n0 k0) ((flJob l0_0).map (.int .i64)) rfl h0_0 (ints_oneCell _ _) 1000000 (by have := length_flJob l0_0; simp; omega) (by unfold maxLen; omega) (by omega) ?_; rotate_right; intro t5 w1 g5 hx1; obtain ⟨ta5, tn5, tc5, rfl⟩ := g5.sl.shape))
  go_ret
  exact ⟨_, rfl, hx1, g5⟩
set_option maxHeartbeats 1600000 in
set_option maxRecDepth 100000 in
theorem copyJobs_c (w : World) (s0_0 : Value) (l0_0 : List DJob) (h0_0 : Ints 5 w s0_0 (flJob l0_0)) (e0 : l0_0.length ≤ 1000000) :
    Calls Try.prog 117 #[s0_0] w (Ret w fun r0 w' => OwnI w.heap.size 119 5 w' r0 (flJob l0_0)) := by
  obtain ⟨a0, n0, k0, rfl⟩ := h0_0.shape
  obtain ⟨i0, hi, hz0, hz1, hz2⟩ := info_parts info_Job
  go_enter Try.func117, Try.ntmps117
  go_wp2_with (first | (at_builtin; refine wp_append_fresh rfl (.tmp 3) (.tmp 4) 40 rfl 119 i0 _ 5 40 Try.underlying40 hi hz0 hz1 hz2 rfl (by decide) w.heap.size (by simp) rfl (.slice a0 n0 k0) ((flJob l0_0).map (.int .i64)) rfl h0_0 (ints_oneCell _ _) 1000000 (by have := length_flJob l0_0; simp; omega) (by unfold maxLen; omega) (by omega) ?_; rotate_right; intro t5 w1 g5 hx1; obtain ⟨ta5, tn5, tc5, rfl⟩ := g5.sl.shape))
  go_ret
  exact ⟨_, rfl, hx1, g5⟩
def RdState (w : World) (v : Value) (s : DState) : Prop := ∃ t2 t3 : Value, v = .agg #[.int .i64 s.Index, .int .i64 s.Time, t2, t3, .int .i64 s.Lease.Holder, .int .i64 s.Lease.Epoch, .int .i64 s.Lease.Until] ∧ Ints 2 w t2 (flPair s.Pairs) ∧ Ints 5 w t3 (flJob s.Jobs)
section
variable {B B' : Nat} {w w' : World} {v : Value} {s : DState}
theorem RdState.ext (h : RdState w v s) (x : Ext w w') : RdState w' v s := let ⟨t2, t3, e, h2, h3⟩ := h; ⟨t2, t3, e, h2.ext x, h3.ext x⟩
theorem IsState.keep (h : IsState B w v s) (x : Chg B w w') : IsState B w' v s := let ⟨t2, t3, e, h2, h3⟩ := h; ⟨t2, t3, e, h2.keep x, h3.keep x⟩
theorem IsState.mono (h : IsState B w v s) (x : B' ≤ B) : IsState B' w v s := let ⟨t2, t3, e, h2, h3⟩ := h; ⟨t2, t3, e, h2.mono x, h3.mono x⟩
theorem IsState.ext (h : IsState B w v s) (x : Ext w w') : IsState B w' v s := let ⟨t2, t3, e, h2, h3⟩ := h; ⟨t2, t3, e, Own.ext h2 x, Own.ext h3 x⟩
end
set_option maxHeartbeats 4000000 in
set_option maxRecDepth 100000 in
theorem copyState_k {w : World} {v : Value} {s : DState} (h : RdState w v s) (e0 : stateSmall s) : Calls Try.prog 80 #[v] w (Ret w fun r w' => IsState w.heap.size w' r s) := by
  obtain ⟨e4, e5⟩ := e0
  have H := h
  obtain ⟨t2, t3, rfl, h2, h3⟩ := h
  obtain ⟨a2, n2, k2, rfl⟩ := h2.shape
  obtain ⟨a3, n3, k3, rfl⟩ := h3.shape
  obtain ⟨WP, hWP⟩ : ∃ WP, WP = w.alloc (.cells #[.int .i64 s.Index, .int .i64 s.Time, .slice a2 n2 k2, .slice a3 n3 k3, .int .i64 s.Lease.Holder, .int .i64 s.Lease.Epoch, .int .i64 s.Lease.Until] 43) := ⟨_, rfl⟩
  have hEP : Ext w WP := by rw [hWP]; exact (Ext.refl _).alloc _
  have hsP : WP.heap.size = w.heap.size + 1 := by rw [hWP]; simp
  have KP : Blk WP w.heap.size 43 #[.int .i64 s.Index, .int .i64 s.Time, .slice a2 n2 k2, .slice a3 n3 k3, .int .i64 s.Lease.Holder, .int .i64 s.Lease.Epoch, .int .i64 s.Lease.Until] := by rw [hWP]; exact Blk.new _ _ _
  obtain ⟨W0, hW0⟩ : ∃ W0, W0 = WP.alloc (.cells #[.int .i64 0, .int .i64 0, .slice none 0 0, .slice none 0 0, .int .i64 0, .int .i64 0, .int .i64 0] 43) := ⟨_, rfl⟩
  have hE0 : Ext WP W0 := by rw [hW0]; exact (Ext.refl _).alloc _
  have hs0 : W0.heap.size = w.heap.size + 1 + 1 := by rw [hW0]; simp [hsP]
  have KR : Blk W0 (w.heap.size + 1) 43 #[.int .i64 0, .int .i64 0, .slice none 0 0, .slice none 0 0, .int .i64 0, .int .i64 0, .int .i64 0] := by rw [hW0, ← hsP]; exact Blk.new _ _ _
  have CP0 := (KP.ext hE0).cell; have FP0 := (KP.ext hE0).frozen
  have CR0 := KR.cell; have FR0 := KR.frozen
  have H0 := Lib.hid hW0; have HP := Lib.hid hWP
  clear hW0 hWP
  go_enter Try.func80, Try.ntmps80
  go_wp2_with fail
  rw [← HP.out, ← H0.out]
  go_region_held3 (fun w' => w'.cell? ⟨w.heap.size, 0, none⟩ = some (.int .i64 s.Index) ∧ w'.cell? ⟨w.heap.size, 1, none⟩ = some (.int .i64 s.Time) ∧ w'.cell? ⟨w.heap.size, 2, none⟩ = some (.slice a2 n2 k2) ∧ w'.cell? ⟨w.heap.size, 3, none⟩ = some (.slice a3 n3 k3) ∧ w'.cell? ⟨w.heap.size, 4, none⟩ = some (.int .i64 s.Lease.Holder) ∧ w'.cell? ⟨w.heap.size, 5, none⟩ = some (.int .i64 s.Lease.Epoch) ∧ w'.cell? ⟨w.heap.size, 6, none⟩ = some (.int .i64 s.Lease.Until)) (first | (refine ⟨((KP.ext ?_).cell 0).trans (by simp), ((KP.ext ?_).cell 1).trans (by simp), ((KP.ext ?_).cell 2).trans (by simp), ((KP.ext ?_).cell 3).trans (by simp), ((KP.ext ?_).cell 4).trans (by simp), ((KP.ext ?_).cell 5).trans (by simp), ((KP.ext ?_).cell 6).trans (by simp)⟩ <;> (repeat' (first | (with_reducible exact Ext.refl _) | (with_reducible assumption) | (with_reducible refine Ext.drewN ?_ _) | (with_reducible refine Ext.drew ?_) | (with_reducible refine Ext.alloc ?_ _) | (with_reducible refine Ext.setCell ?_ ?_ _) | (with_reducible refine Ext.setRow ?_ ?_ _) | (with_reducible exact Nat.le_refl _) | (with_reducible refine Ext.trans ?_ (by assumption)) | omega)); done)) (first | (go_at_call 116; refine (copyPairs_c _ _ s.Pairs ((h2.ext hEP).ext (by repeat' (first | (with_reducible exact Ext.refl _) | (with_reducible assumption) | (with_reducible refine Ext.drewN ?_ _) | (with_reducible refine Ext.drew ?_) | (with_reducible refine Ext.alloc ?_ _) | (with_reducible refine Ext.setCell ?_ ?_ _) | (with_reducible refine Ext.setRow ?_ ?_ _) | (with_reducible exact Nat.le_refl _) | (with_reducible refine Ext.trans ?_ (by assumption)) | omega))) e4).mono ?_; rintro e wa ⟨_, rfl, hxwa, ga⟩; obtain ⟨b2, m2, j2, rfl⟩ := ga.shape; have hzwa := hxwa.size; (try simp only [World.size_setCell, size_drew] at hzwa); have KRwa : Blk wa (w.heap.size + 1) _ _ := KR.ext (by repeat' (first | (with_reducible exact Ext.refl _) | (with_reducible assumption) | (with_reducible refine Ext.drewN ?_ _) | (with_reducible refine Ext.drew ?_) | (with_reducible refine Ext.alloc ?_ _) | (with_reducible refine Ext.setCell ?_ ?_ _) | (with_reducible refine Ext.setRow ?_ ?_ _) | (with_reducible exact Nat.le_refl _) | (with_reducible refine Ext.trans ?_ (by assumption)) | omega)); have CRwa := KRwa.cell; have FRwa := KRwa.frozen) | (go_at_call 117; refine (copyJobs_c _ _ s.Jobs ((h3.ext hEP).ext (by repeat' (first | (with_reducible exact Ext.refl _) | (with_reducible assumption) | (with_reducible refine Ext.drewN ?_ _) | (with_reducible refine Ext.drew ?_) | (with_reducible refine Ext.alloc ?_ _) | (with_reducible refine Ext.setCell ?_ ?_ _) | (with_reducible refine Ext.setRow ?_ ?_ _) | (with_reducible exact Nat.le_refl _) | (with_reducible refine Ext.trans ?_ (by assumption)) | omega))) e5).mono ?_; rintro e wb ⟨_, rfl, hxwb, gb⟩; obtain ⟨b3, m3, j3, rfl⟩ := gb.shape; have hzwb := hxwb.size; (try simp only [World.size_setCell, size_drew] at hzwb); have KRwb : Blk wb (w.heap.size + 1) _ _ := KR.ext (by repeat' (first | (with_reducible exact Ext.refl _) | (with_reducible assumption) | (with_reducible refine Ext.drewN ?_ _) | (with_reducible refine Ext.drew ?_) | (with_reducible refine Ext.alloc ?_ _) | (with_reducible refine Ext.setCell ?_ ?_ _) | (with_reducible refine Ext.setRow ?_ ?_ _) | (with_reducible exact Nat.le_refl _) | (with_reducible refine Ext.trans ?_ (by assumption)) | omega)); have CRwb := KRwb.cell; have FRwb := KRwb.frozen))
  all_goals
    go_wp2_with fail
    refine bodyPost_ret (by simp [results, Try.results80, go_sem, *]; try rfl) rfl ?_
    have hq : w.heap.size + 1 < wa.heap.size := by have : W0.heap.size ≤ wa.heap.size := hzwa; omega
    have hr : w.heap.size + 1 < W0.heap.size := by omega
    refine ⟨_, rfl, ?_, _, _, rfl, OwnI.mono (B := W0.heap.size) (OwnI.keep (Own.ext ga hxwb) (by repeat' (first | (with_reducible exact Chg.refl _ _) | (with_reducible refine Chg.drewN ?_ _) | (with_reducible refine Chg.drew ?_) | (with_reducible refine Chg.alloc ?_ _) | (with_reducible refine Chg.setLow ?_ (by omega) _) | (with_reducible refine Chg.setNew ?_ (by omega) _) | (with_reducible refine Chg.setRow ?_ (by omega) _) | (with_reducible refine Chg.ext ?_ (by assumption)) | omega))) (by omega), OwnI.mono (B := W0.heap.size) (OwnI.keep (OwnI.mono gb hzwa) (by repeat' (first | (with_reducible exact Chg.refl _ _) | (with_reducible refine Chg.drewN ?_ _) | (with_reducible refine Chg.drew ?_) | (with_reducible refine Chg.alloc ?_ _) | (with_reducible refine Chg.setLow ?_ (by omega) _) | (with_reducible refine Chg.setNew ?_ (by omega) _) | (with_reducible refine Chg.setRow ?_ (by omega) _) | (with_reducible refine Chg.ext ?_ (by assumption)) | omega))) (by omega)⟩
    exact Ext.trans hEP (by repeat' (first | (with_reducible exact Ext.refl _) | (with_reducible assumption) | (with_reducible refine Ext.drewN ?_ _) | (with_reducible refine Ext.drew ?_) | (with_reducible refine Ext.alloc ?_ _) | (with_reducible refine Ext.setCell ?_ ?_ _) | (with_reducible refine Ext.setRow ?_ ?_ _) | (with_reducible exact Nat.le_refl _) | (with_reducible refine Ext.trans ?_ (by assumption)) | omega))
set_option maxHeartbeats 4000000 in
set_option maxRecDepth 100000 in
theorem l17Copy_k {w : World} {v : Value} {s : DState} (h : RdState w v s) (e0 : stateSmall s) : Calls Try.prog 79 #[v] w (Ret w fun r w' => IsState w.heap.size w' r s) := by
  obtain ⟨e4, e5⟩ := e0
  have H := h
  obtain ⟨t2, t3, rfl, h2, h3⟩ := h
  obtain ⟨a2, n2, k2, rfl⟩ := h2.shape
  obtain ⟨a3, n3, k3, rfl⟩ := h3.shape
  obtain ⟨WP, hWP⟩ : ∃ WP, WP = w.alloc (.cells #[.int .i64 s.Index, .int .i64 s.Time, .slice a2 n2 k2, .slice a3 n3 k3, .int .i64 s.Lease.Holder, .int .i64 s.Lease.Epoch, .int .i64 s.Lease.Until] 43) := ⟨_, rfl⟩
  have hEP : Ext w WP := by rw [hWP]; exact (Ext.refl _).alloc _
  have hsP : WP.heap.size = w.heap.size + 1 := by rw [hWP]; simp
  have KP : Blk WP w.heap.size 43 #[.int .i64 s.Index, .int .i64 s.Time, .slice a2 n2 k2, .slice a3 n3 k3, .int .i64 s.Lease.Holder, .int .i64 s.Lease.Epoch, .int .i64 s.Lease.Until] := by rw [hWP]; exact Blk.new _ _ _
  obtain ⟨W0, hW0⟩ : ∃ W0, W0 = WP.alloc (.cells #[.int .i64 0, .int .i64 0, .slice none 0 0, .slice none 0 0, .int .i64 0, .int .i64 0, .int .i64 0] 43) := ⟨_, rfl⟩
  have hE0 : Ext WP W0 := by rw [hW0]; exact (Ext.refl _).alloc _
  have hs0 : W0.heap.size = w.heap.size + 1 + 1 := by rw [hW0]; simp [hsP]
  have KR : Blk W0 (w.heap.size + 1) 43 #[.int .i64 0, .int .i64 0, .slice none 0 0, .slice none 0 0, .int .i64 0, .int .i64 0, .int .i64 0] := by rw [hW0, ← hsP]; exact Blk.new _ _ _
  have CP0 := (KP.ext hE0).cell; have FP0 := (KP.ext hE0).frozen
  have CR0 := KR.cell; have FR0 := KR.frozen
  have H0 := Lib.hid hW0; have HP := Lib.hid hWP
  clear hW0 hWP
  go_enter Try.func79, Try.ntmps79
  go_wp2_with fail
  rw [← HP.out, ← H0.out]
  refine (l14Copy_c _ _ s.Pairs (h2.ext (hEP.trans hE0)) e4).mono ?_
  rintro e wa ⟨_, rfl, hxa, ga⟩
  obtain ⟨b2, m2, j2, rfl⟩ := ga.shape
  have KPa := (KP.ext hE0).ext hxa; have KRa := KR.ext hxa
  have CPa := KPa.cell; have FPa := KPa.frozen; have CRa := KRa.cell; have FRa := KRa.frozen
  have hEa : Ext w wa := (hEP.trans hE0).trans hxa
  have hza := hxa.size
  go_wp2_with fail
  refine (l15Copy_c _ _ s.Jobs (h3.ext (Ext.setCell hEa (Nat.le_refl _) _)) e5).mono ?_
  rintro e wb ⟨_, rfl, hxb, gb⟩
  obtain ⟨b3, m3, j3, rfl⟩ := gb.shape
  have KPb := (KPa.set_ 2 (.slice b2 m2 j2)).ext hxb
  (try simp only [List.setIfInBounds_toArray, List.set_cons_zero, List.set_cons_succ] at KPb)
  have KRb := (KRa.far (p := ⟨w.heap.size, 2, none⟩) (by simp) (.slice b2 m2 j2)).ext hxb
  have CPb := KPb.cell; have FPb := KPb.frozen; have CRb := KRb.cell; have FRb := KRb.frozen
  clear CPa FPa CRa FRa CP0 FP0 CR0 FR0
  go_wp2_with fail
  refine bodyPost_ret (by simp [results, Try.results79, go_sem, *]; try rfl) rfl ?_
  simp only [World.size_setCell] at gb
  have hEb := Lib.hid ((Ext.setCell hEa (Nat.le_refl _) _).trans hxb)
  clear CPb FPb CRb FRb
  refine ⟨_, rfl, by have hEc := hEb.out; clear hxb; repeat' (first | (with_reducible exact Ext.refl _) | (with_reducible assumption) | (with_reducible refine Ext.drewN ?_ _) | (with_reducible refine Ext.drew ?_) | (with_reducible refine Ext.alloc ?_ _) | (with_reducible refine Ext.setCell ?_ ?_ _) | (with_reducible refine Ext.setRow ?_ ?_ _) | (with_reducible exact Nat.le_refl _) | (with_reducible refine Ext.trans ?_ (by assumption)) | omega), _, _, rfl, OwnI.mono (B := W0.heap.size) (OwnI.keep ga (by repeat' (first | (with_reducible exact Chg.refl _ _) | (with_reducible refine Chg.drewN ?_ _) | (with_reducible refine Chg.drew ?_) | (with_reducible refine Chg.alloc ?_ _) | (with_reducible refine Chg.setLow ?_ (by omega) _) | (with_reducible refine Chg.setNew ?_ (by omega) _) | (with_reducible refine Chg.setRow ?_ (by omega) _) | (with_reducible refine Chg.ext ?_ (by assumption)) | omega))) (by omega), OwnI.mono (B := W0.heap.size) (OwnI.keep (OwnI.mono gb hza) (by repeat' (first | (with_reducible exact Chg.refl _ _) | (with_reducible refine Chg.drewN ?_ _) | (with_reducible refine Chg.drew ?_) | (with_reducible refine Chg.alloc ?_ _) | (with_reducible refine Chg.setLow ?_ (by omega) _) | (with_reducible refine Chg.setNew ?_ (by omega) _) | (with_reducible refine Chg.setRow ?_ (by omega) _) | (with_reducible refine Chg.ext ?_ (by assumption)) | omega))) (by omega)⟩
theorem store_of {B : Nat} {w : World} {a b c e : Value} {d : DDisk} {st : DState} (hd : IsDisk B w (.agg #[a, b]) d) (hc : OwnI B 111 2 w c (flPair st.Pairs)) (he : OwnI B 119 5 w e (flJob st.Jobs)) (n l y : Int) :
    ∃ F, OwStore B w (.agg #[a, b, .int .i64 st.Index, .int .i64 st.Time, c, e, .int .i64 st.Lease.Holder, .int .i64 st.Lease.Epoch, .int .i64 st.Lease.Until, .int .i64 n, .int .i64 l, .int .i64 y]) ⟨d, st, n, l, y⟩ F := by
  obtain ⟨t0, t1, ss0, ss1, e, h0, h1, hd⟩ := hd
  injection e with e; injection e with e; injection e with e1 e; injection e with e2 _
  subst e1; subst e2
  exact ⟨_, _, _, _, _, ss0, ss1, rfl, h0, h1, hc, he, hd, rfl⟩
set_option maxHeartbeats 8000000 in
set_option maxRecDepth 100000 in
theorem copyStore_k {w : World} {v : Value} {s : DStore} (h : RdStore w v s) (e0 : diskSmall s.Disk) (e1 : stateSmall s.State) : Calls Try.prog 38 #[v] w (Ret w fun r w' => ∃ F, OwStore w.heap.size w' r s F) := by
  have H := h
  obtain ⟨t0, t1, t4, t5, rfl, h0, h1, h4, h5⟩ := h
  obtain ⟨a0, n0, k0, rfl⟩ := h0.shape
  obtain ⟨a1, n1, k1, rfl⟩ := h1.shape
  obtain ⟨a4, n4, k4, rfl⟩ := h4.shape
  obtain ⟨a5, n5, k5, rfl⟩ := h5.shape
  have hst : RdState w (.agg #[.int .i64 s.State.Index, .int .i64 s.State.Time, .slice a4 n4 k4, .slice a5 n5 k5, .int .i64 s.State.Lease.Holder, .int .i64 s.State.Lease.Epoch, .int .i64 s.State.Lease.Until]) s.State := ⟨_, _, rfl, h4, h5⟩
  obtain ⟨WP, hWP⟩ : ∃ WP, WP = w.alloc (.cells #[.slice a0 n0 k0, .slice a1 n1 k1, .int .i64 s.State.Index, .int .i64 s.State.Time, .slice a4 n4 k4, .slice a5 n5 k5, .int .i64 s.State.Lease.Holder, .int .i64 s.State.Lease.Epoch, .int .i64 s.State.Lease.Until, .int .i64 s.Num, .int .i64 s.Last, .int .i64 s.Busy] 45) := ⟨_, rfl⟩
  have hEP : Ext w WP := by rw [hWP]; exact (Ext.refl _).alloc _
  have hsP : WP.heap.size = w.heap.size + 1 := by rw [hWP]; simp
  have KP : Blk WP w.heap.size 45 #[.slice a0 n0 k0, .slice a1 n1 k1, .int .i64 s.State.Index, .int .i64 s.State.Time, .slice a4 n4 k4, .slice a5 n5 k5, .int .i64 s.State.Lease.Holder, .int .i64 s.State.Lease.Epoch, .int .i64 s.State.Lease.Until, .int .i64 s.Num, .int .i64 s.Last, .int .i64 s.Busy] := by rw [hWP]; exact Blk.new _ _ _
  obtain ⟨W0, hW0⟩ : ∃ W0, W0 = WP.alloc (.cells #[.slice none 0 0, .slice none 0 0, .int .i64 0, .int .i64 0, .slice none 0 0, .slice none 0 0, .int .i64 0, .int .i64 0, .int .i64 0, .int .i64 0, .int .i64 0, .int .i64 0] 45) := ⟨_, rfl⟩
  have hE0 : Ext WP W0 := by rw [hW0]; exact (Ext.refl _).alloc _
  have hs0 : W0.heap.size = w.heap.size + 1 + 1 := by rw [hW0]; simp [hsP]
  have KR : Blk W0 (w.heap.size + 1) 45 #[.slice none 0 0, .slice none 0 0, .int .i64 0, .int .i64 0, .slice none 0 0, .slice none 0 0, .int .i64 0, .int .i64 0, .int .i64 0, .int .i64 0, .int .i64 0, .int .i64 0] := by rw [hW0, ← hsP]; exact Blk.new _ _ _
  have CP0 := (KP.ext hE0).cell; have FP0 := (KP.ext hE0).frozen
  have CR0 := KR.cell; have FR0 := KR.frozen
  have H0 := Lib.hid hW0; have HP := Lib.hid hWP
  clear hW0 hWP
  go_enter Try.func38, Try.ntmps38
  go_wp2_with fail
  rw [← HP.out, ← H0.out]
  go_region_held3 (fun w' => w'.cell? ⟨w.heap.size, 0, none⟩ = some (.slice a0 n0 k0) ∧ w'.cell? ⟨w.heap.size, 1, none⟩ = some (.slice a1 n1 k1) ∧ w'.cell? ⟨w.heap.size, 2, none⟩ = some (.int .i64 s.State.Index) ∧ w'.cell? ⟨w.heap.size, 3, none⟩ = some (.int .i64 s.State.Time) ∧ w'.cell? ⟨w.heap.size, 4, none⟩ = some (.slice a4 n4 k4) ∧ w'.cell? ⟨w.heap.size, 5, none⟩ = some (.slice a5 n5 k5) ∧ w'.cell? ⟨w.heap.size, 6, none⟩ = some (.int .i64 s.State.Lease.Holder) ∧ w'.cell? ⟨w.heap.size, 7, none⟩ = some (.int .i64 s.State.Lease.Epoch) ∧ w'.cell? ⟨w.heap.size, 8, none⟩ = some (.int .i64 s.State.Lease.Until) ∧ w'.cell? ⟨w.heap.size, 9, none⟩ = some (.int .i64 s.Num) ∧ w'.cell? ⟨w.heap.size, 10, none⟩ = some (.int .i64 s.Last) ∧ w'.cell? ⟨w.heap.size, 11, none⟩ = some (.int .i64 s.Busy)) (first | (refine ⟨((KP.ext ?_).cell 0).trans (by simp), ((KP.ext ?_).cell 1).trans (by simp), ((KP.ext ?_).cell 2).trans (by simp), ((KP.ext ?_).cell 3).trans (by simp), ((KP.ext ?_).cell 4).trans (by simp), ((KP.ext ?_).cell 5).trans (by simp), ((KP.ext ?_).cell 6).trans (by simp), ((KP.ext ?_).cell 7).trans (by simp), ((KP.ext ?_).cell 8).trans (by simp), ((KP.ext ?_).cell 9).trans (by simp), ((KP.ext ?_).cell 10).trans (by simp), ((KP.ext ?_).cell 11).trans (by simp)⟩ <;> (repeat' (first | (with_reducible exact Ext.refl _) | (with_reducible assumption) | (with_reducible refine Ext.drewN ?_ _) | (with_reducible refine Ext.drew ?_) | (with_reducible refine Ext.alloc ?_ _) | (with_reducible refine Ext.setCell ?_ ?_ _) | (with_reducible refine Ext.setRow ?_ ?_ _) | (with_reducible exact Nat.le_refl _) | (with_reducible refine Ext.trans ?_ (by assumption)) | omega)); done)) (first | (go_at_call 63; refine (copyDisk_c _ _ s.Disk.Kept _ s.Disk.Wait ((h0.ext hEP).ext (by repeat' (first | (with_reducible exact Ext.refl _) | (with_reducible assumption) | (with_reducible refine Ext.drewN ?_ _) | (with_reducible refine Ext.drew ?_) | (with_reducible refine Ext.alloc ?_ _) | (with_reducible refine Ext.setCell ?_ ?_ _) | (with_reducible refine Ext.setRow ?_ ?_ _) | (with_reducible exact Nat.le_refl _) | (with_reducible refine Ext.trans ?_ (by assumption)) | omega))) ((h1.ext hEP).ext (by repeat' (first | (with_reducible exact Ext.refl _) | (with_reducible assumption) | (with_reducible refine Ext.drewN ?_ _) | (with_reducible refine Ext.drew ?_) | (with_reducible refine Ext.alloc ?_ _) | (with_reducible refine Ext.setCell ?_ ?_ _) | (with_reducible refine Ext.setRow ?_ ?_ _) | (with_reducible exact Nat.le_refl _) | (with_reducible refine Ext.trans ?_ (by assumption)) | omega))) e0).mono ?_; rintro e wa ⟨_, rfl, hxwa, ga⟩; obtain ⟨b0, m0, j0, b1, m1, j1, rfl⟩ := ga.shape; have hzwa := hxwa.size; (try simp only [World.size_setCell, size_drew] at hzwa); have KRwa : Blk wa (w.heap.size + 1) _ _ := KR.ext (by repeat' (first | (with_reducible exact Ext.refl _) | (with_reducible assumption) | (with_reducible refine Ext.drewN ?_ _) | (with_reducible refine Ext.drew ?_) | (with_reducible refine Ext.alloc ?_ _) | (with_reducible refine Ext.setCell ?_ ?_ _) | (with_reducible refine Ext.setRow ?_ ?_ _) | (with_reducible exact Nat.le_refl _) | (with_reducible refine Ext.trans ?_ (by assumption)) | omega)); have CRwa := KRwa.cell; have FRwa := KRwa.frozen) | (go_at_call 80; refine (copyState_k ((hst.ext hEP).ext (by repeat' (first | (with_reducible exact Ext.refl _) | (with_reducible assumption) | (with_reducible refine Ext.drewN ?_ _) | (with_reducible refine Ext.drew ?_) | (with_reducible refine Ext.alloc ?_ _) | (with_reducible refine Ext.setCell ?_ ?_ _) | (with_reducible refine Ext.setRow ?_ ?_ _) | (with_reducible exact Nat.le_refl _) | (with_reducible refine Ext.trans ?_ (by assumption)) | omega))) e1).mono ?_; rintro e wb ⟨_, rfl, hxwb, gb⟩; obtain ⟨u4, u5, rfl, g4, g5⟩ := gb; obtain ⟨b4, m4, j4, rfl⟩ := g4.shape; obtain ⟨b5, m5, j5, rfl⟩ := g5.shape; have hzwb := hxwb.size; (try simp only [World.size_setCell, size_drew] at hzwb); have KRwb : Blk wb (w.heap.size + 1) _ _ := KR.ext (by repeat' (first | (with_reducible exact Ext.refl _) | (with_reducible assumption) | (with_reducible refine Ext.drewN ?_ _) | (with_reducible refine Ext.drew ?_) | (with_reducible refine Ext.alloc ?_ _) | (with_reducible refine Ext.setCell ?_ ?_ _) | (with_reducible refine Ext.setRow ?_ ?_ _) | (with_reducible exact Nat.le_refl _) | (with_reducible refine Ext.trans ?_ (by assumption)) | omega)); have CRwb := KRwb.cell; have FRwb := KRwb.frozen))
  all_goals
    go_wp2_with fail
    refine bodyPost_ret (by simp [results, Try.results38, go_sem, *]; try rfl) rfl ?_
    have hq : w.heap.size + 1 < wa.heap.size := by have : W0.heap.size ≤ wa.heap.size := hzwa; omega
    have hr : w.heap.size + 1 < W0.heap.size := by omega
    refine ⟨_, rfl, ?_, store_of (IsDisk.mono (B := W0.heap.size) (IsDisk.keep (IsDisk.ext ga hxwb) (by repeat' (first | (with_reducible exact Chg.refl _ _) | (with_reducible refine Chg.drewN ?_ _) | (with_reducible refine Chg.drew ?_) | (with_reducible refine Chg.alloc ?_ _) | (with_reducible refine Chg.setLow ?_ (by omega) _) | (with_reducible refine Chg.setNew ?_ (by omega) _) | (with_reducible refine Chg.setRow ?_ (by omega) _) | (with_reducible refine Chg.ext ?_ (by assumption)) | omega))) (by omega)) (OwnI.mono (B := W0.heap.size) (OwnI.keep (OwnI.mono g4 hzwa) (by repeat' (first | (with_reducible exact Chg.refl _ _) | (with_reducible refine Chg.drewN ?_ _) | (with_reducible refine Chg.drew ?_) | (with_reducible refine Chg.alloc ?_ _) | (with_reducible refine Chg.setLow ?_ (by omega) _) | (with_reducible refine Chg.setNew ?_ (by omega) _) | (with_reducible refine Chg.setRow ?_ (by omega) _) | (with_reducible refine Chg.ext ?_ (by assumption)) | omega))) (by omega)) (OwnI.mono (B := W0.heap.size) (OwnI.keep (OwnI.mono g5 hzwa) (by repeat' (first | (with_reducible exact Chg.refl _ _) | (with_reducible refine Chg.drewN ?_ _) | (with_reducible refine Chg.drew ?_) | (with_reducible refine Chg.alloc ?_ _) | (with_reducible refine Chg.setLow ?_ (by omega) _) | (with_reducible refine Chg.setNew ?_ (by omega) _) | (with_reducible refine Chg.setRow ?_ (by omega) _) | (with_reducible refine Chg.ext ?_ (by assumption)) | omega))) (by omega)) _ _ _⟩
    exact Ext.trans hEP (by repeat' (first | (with_reducible exact Ext.refl _) | (with_reducible assumption) | (with_reducible refine Ext.drewN ?_ _) | (with_reducible refine Ext.drew ?_) | (with_reducible refine Ext.alloc ?_ _) | (with_reducible refine Ext.setCell ?_ ?_ _) | (with_reducible refine Ext.setRow ?_ ?_ _) | (with_reducible exact Nat.le_refl _) | (with_reducible refine Ext.trans ?_ (by assumption)) | omega))
set_option maxHeartbeats 8000000 in
set_option maxRecDepth 100000 in
theorem l19Copy_k {w : World} {v : Value} {s : DStore} (h : RdStore w v s) (e0 : diskSmall s.Disk) (e1 : stateSmall s.State) : Calls Try.prog 36 #[v] w (Ret w fun r w' => ∃ F, OwStore w.heap.size w' r s F) := by
  have H := h
  obtain ⟨t0, t1, t4, t5, rfl, h0, h1, h4, h5⟩ := h
  obtain ⟨a0, n0, k0, rfl⟩ := h0.shape
  obtain ⟨a1, n1, k1, rfl⟩ := h1.shape
  obtain ⟨a4, n4, k4, rfl⟩ := h4.shape
  obtain ⟨a5, n5, k5, rfl⟩ := h5.shape
  have hst : RdState w (.agg #[.int .i64 s.State.Index, .int .i64 s.State.Time, .slice a4 n4 k4, .slice a5 n5 k5, .int .i64 s.State.Lease.Holder, .int .i64 s.State.Lease.Epoch, .int .i64 s.State.Lease.Until]) s.State := ⟨_, _, rfl, h4, h5⟩
  obtain ⟨WP, hWP⟩ : ∃ WP, WP = w.alloc (.cells #[.slice a0 n0 k0, .slice a1 n1 k1, .int .i64 s.State.Index, .int .i64 s.State.Time, .slice a4 n4 k4, .slice a5 n5 k5, .int .i64 s.State.Lease.Holder, .int .i64 s.State.Lease.Epoch, .int .i64 s.State.Lease.Until, .int .i64 s.Num, .int .i64 s.Last, .int .i64 s.Busy] 45) := ⟨_, rfl⟩
  have hEP : Ext w WP := by rw [hWP]; exact (Ext.refl _).alloc _
  have hsP : WP.heap.size = w.heap.size + 1 := by rw [hWP]; simp
  have KP : Blk WP w.heap.size 45 #[.slice a0 n0 k0, .slice a1 n1 k1, .int .i64 s.State.Index, .int .i64 s.State.Time, .slice a4 n4 k4, .slice a5 n5 k5, .int .i64 s.State.Lease.Holder, .int .i64 s.State.Lease.Epoch, .int .i64 s.State.Lease.Until, .int .i64 s.Num, .int .i64 s.Last, .int .i64 s.Busy] := by rw [hWP]; exact Blk.new _ _ _
  obtain ⟨W0, hW0⟩ : ∃ W0, W0 = WP.alloc (.cells #[.slice none 0 0, .slice none 0 0, .int .i64 0, .int .i64 0, .slice none 0 0, .slice none 0 0, .int .i64 0, .int .i64 0, .int .i64 0, .int .i64 0, .int .i64 0, .int .i64 0] 45) := ⟨_, rfl⟩
  have hE0 : Ext WP W0 := by rw [hW0]; exact (Ext.refl _).alloc _
  have hs0 : W0.heap.size = w.heap.size + 1 + 1 := by rw [hW0]; simp [hsP]
  have KR : Blk W0 (w.heap.size + 1) 45 #[.slice none 0 0, .slice none 0 0, .int .i64 0, .int .i64 0, .slice none 0 0, .slice none 0 0, .int .i64 0, .int .i64 0, .int .i64 0, .int .i64 0, .int .i64 0, .int .i64 0] := by rw [hW0, ← hsP]; exact Blk.new _ _ _
  have CP0 := (KP.ext hE0).cell; have FP0 := (KP.ext hE0).frozen
  have CR0 := KR.cell; have FR0 := KR.frozen
  have H0 := Lib.hid hW0; have HP := Lib.hid hWP
  clear hW0 hWP
  go_enter Try.func36, Try.ntmps36
  go_wp2_with fail
  rw [← HP.out, ← H0.out]
  refine (l3Copy_c _ _ s.Disk.Kept _ s.Disk.Wait (h0.ext (hEP.trans hE0)) (h1.ext (hEP.trans hE0)) e0).mono ?_
  rintro e wa ⟨_, rfl, hxa, ga⟩
  obtain ⟨b0, m0, j0, b1, m1, j1, rfl⟩ := ga.shape
  have KPa := (KP.ext hE0).ext hxa; have KRa := KR.ext hxa
  have CPa := KPa.cell; have FPa := KPa.frozen; have CRa := KRa.cell; have FRa := KRa.frozen
  have hEa : Ext w wa := (hEP.trans hE0).trans hxa
  have hza := hxa.size
  go_wp2_with fail
  refine (l17Copy_k (hst.ext (Ext.setCell (Ext.setCell hEa (Nat.le_refl _) _) (Nat.le_refl _) _)) e1).mono ?_
  rintro e wb ⟨_, rfl, hxb, gb⟩
  obtain ⟨u4, u5, rfl, g4, g5⟩ := gb
  obtain ⟨b4, m4, j4, rfl⟩ := g4.shape
  obtain ⟨b5, m5, j5, rfl⟩ := g5.shape
  have KPb := ((KPa.set_ 0 (.slice b0 m0 j0)).set_ 1 (.slice b1 m1 j1)).ext hxb
  (try simp only [List.setIfInBounds_toArray, List.set_cons_zero, List.set_cons_succ] at KPb)
  have KRb := ((KRa.far (p := ⟨w.heap.size, 0, none⟩) (by simp) (.slice b0 m0 j0)).far (p := ⟨w.heap.size, 1, none⟩) (by simp) (.slice b1 m1 j1)).ext hxb
  have CPb := KPb.cell; have FPb := KPb.frozen; have CRb := KRb.cell; have FRb := KRb.frozen
  clear CPa FPa CRa FRa CP0 FP0 CR0 FR0
  go_wp2_with fail
  refine bodyPost_ret (by simp [results, Try.results36, go_sem, *]; try rfl) rfl ?_
  simp only [World.size_setCell] at g4 g5
  have hEb := Lib.hid ((Ext.setCell (Ext.setCell hEa (Nat.le_refl _) _) (Nat.le_refl _) _).trans hxb)
  clear CPb FPb CRb FRb
  refine ⟨_, rfl, by have hEc := hEb.out; clear hxb; repeat' (first | (with_reducible exact Ext.refl _) | (with_reducible assumption) | (with_reducible refine Ext.drewN ?_ _) | (with_reducible refine Ext.drew ?_) | (with_reducible refine Ext.alloc ?_ _) | (with_reducible refine Ext.setCell ?_ ?_ _) | (with_reducible refine Ext.setRow ?_ ?_ _) | (with_reducible exact Nat.le_refl _) | (with_reducible refine Ext.trans ?_ (by assumption)) | omega), store_of (IsDisk.mono (B := W0.heap.size) (IsDisk.keep ga (by repeat' (first | (with_reducible exact Chg.refl _ _) | (with_reducible refine Chg.drewN ?_ _) | (with_reducible refine Chg.drew ?_) | (with_reducible refine Chg.alloc ?_ _) | (with_reducible refine Chg.setLow ?_ (by omega) _) | (with_reducible refine Chg.setNew ?_ (by omega) _) | (with_reducible refine Chg.setRow ?_ (by omega) _) | (with_reducible refine Chg.ext ?_ (by assumption)) | omega))) (by omega)) (OwnI.mono (B := W0.heap.size) (OwnI.keep (OwnI.mono g4 hza) (by repeat' (first | (with_reducible exact Chg.refl _ _) | (with_reducible refine Chg.drewN ?_ _) | (with_reducible refine Chg.drew ?_) | (with_reducible refine Chg.alloc ?_ _) | (with_reducible refine Chg.setLow ?_ (by omega) _) | (with_reducible refine Chg.setNew ?_ (by omega) _) | (with_reducible refine Chg.setRow ?_ (by omega) _) | (with_reducible refine Chg.ext ?_ (by assumption)) | omega))) (by omega)) (OwnI.mono (B := W0.heap.size) (OwnI.keep (OwnI.mono g5 hza) (by repeat' (first | (with_reducible exact Chg.refl _ _) | (with_reducible refine Chg.drewN ?_ _) | (with_reducible refine Chg.drew ?_) | (with_reducible refine Chg.alloc ?_ _) | (with_reducible refine Chg.setLow ?_ (by omega) _) | (with_reducible refine Chg.setNew ?_ (by omega) _) | (with_reducible refine Chg.setRow ?_ (by omega) _) | (with_reducible refine Chg.ext ?_ (by assumption)) | omega))) (by omega)) _ _ _⟩

end Go.Proofs.Ytankkbjlneeolaa
