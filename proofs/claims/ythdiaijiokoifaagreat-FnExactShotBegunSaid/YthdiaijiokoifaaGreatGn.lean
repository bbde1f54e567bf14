/- Contracts and plain laws: Q11a Q11 Q12. -/
import Derived.Test.YthdiaijiokoifaaGreatGe
import Derived.Test.YthdiaijiokoifaaGreatGl
-- Copies of states.
set_option linter.unusedSimpArgs false
set_option linter.unusedVariables false
namespace Go.Proofs.YthdiaijiokoifaaGreat
open Go.RowKit Go.G8

end Go.Proofs.YthdiaijiokoifaaGreat
namespace Go.G8
open Go.RowKit
def stateSmall (s : DState) : Prop := s.Pairs.length ≤ 1000000 ∧ s.Jobs.length ≤ 1000000
end Go.G8
namespace Go.Proofs.YthdiaijiokoifaaGreat
open Go.RowKit Go.G8
set_option maxHeartbeats 1600000 in
set_option maxRecDepth 100000 in
theorem l14Copy_c (w : World) (s0_0 : Value) (l0_0 : List DPair) (h0_0 : Ints 2 w s0_0 (flPair l0_0)) (e0 : l0_0.length ≤ 1000000) :
    Calls Tryz.prog 85 #[s0_0] w (Ret w fun r0 w' => OwnI w.heap.size 139 2 w' r0 (flPair l0_0)) := by
  obtain ⟨a0, n0, k0, rfl⟩ := h0_0.shape
  obtain ⟨i0, hi, hz0, hz1, hz2⟩ := info_parts info_Pair
  go_enter Tryz.func85, Tryz.ntmps85
  go_wp2_with (first | (at_builtin; refine wp_append_fresh rfl (.tmp 3) (.tmp 4) 31 rfl 139 i0 _ 2 16 Tryz.underlying31 hi hz0 hz1 hz2 rfl (by decide) w.heap.size (by simp) rfl (.slice a0 n0 k0) ((flPair l0_0).map (.int .i64)) rfl h0_0 (ints_oneCell _ _) 1000000 (by have := length_flPair l0_0; simp; omega) (by unfold maxLen; omega) (by omega) ?_; rotate_right; intro t5 w1 g5 hx1; obtain ⟨ta5, tn5, tc5, rfl⟩ := g5.sl.shape))
  go_ret
  exact ⟨_, rfl, hx1, g5⟩
set_option maxHeartbeats 1600000 in
set_option maxRecDepth 100000 in
theorem copyPairs_c (w : World) (s0_0 : Value) (l0_0 : List DPair) (h0_0 : Ints 2 w s0_0 (flPair l0_0)) (e0 : l0_0.length ≤ 1000000) :
    Calls Tryz.prog 103 #[s0_0] w (Ret w fun r0 w' => OwnI w.heap.size 139 2 w' r0 (flPair l0_0)) := by
  obtain ⟨a0, n0, k0, rfl⟩ := h0_0.shape
  obtain ⟨i0, hi, hz0, hz1, hz2⟩ := info_parts info_Pair
  go_enter Tryz.func103, Tryz.ntmps103
  go_wp2_with (first | (at_builtin; refine wp_append_fresh rfl (.tmp 3) (.tmp 4) 31 rfl 139 i0 _ 2 16 Tryz.underlying31 hi hz0 hz1 hz2 rfl (by decide) w.heap.size (by simp) rfl (.slice a0 n0 k0) ((flPair l0_0).map (.int .i64)) rfl h0_0 (ints_oneCell _ _) 1000000 (by have := length_flPair l0_0; simp; omega) (by unfold maxLen; omega) (by omega) ?_; rotate_right; intro t5 w1 g5 hx1; obtain ⟨ta5, tn5, tc5, rfl⟩ := g5.sl.shape))
  go_ret
  exact ⟨_, rfl, hx1, g5⟩
set_option maxHeartbeats 1600000 in
set_option maxRecDepth 100000 in
theorem l15Copy_c (w : World) (s0_0 : Value) (l0_0 : List DJob) (h0_0 : Ints 5 w s0_0 (flJob l0_0)) (e0 : l0_0.length ≤ 1000000) :
    Calls Tryz.prog 86 #[s0_0] w (Ret w fun r0 w' => OwnI w.heap.size 123 5 w' r0 (flJob l0_0)) := by
  obtain ⟨a0, n0, k0, rfl⟩ := h0_0.shape
  obtain ⟨i0, hi, hz0, hz1, hz2⟩ := info_parts info_Job
  go_enter Tryz.func86, Tryz.ntmps86
  go_wp2_with (first | (at_builtin; refine wp_append_fresh rfl (.tmp 3) (.tmp 4) 32 rfl 123 i0 _ 5 40 Tryz.underlying32 hi hz0 hz1 hz2 rfl (by decide) w.heap.size (by simp) rfl (.slice a0 n0 k0) ((flJob l0_0).map (.int .i64)) rfl h0_0 (ints_oneCell _ _) 1000000 (by have := length_flJob l0_0; simp; omega) (by unfold maxLen; omega) (by omega) ?_; rotate_right; intro t5 w1 g5 hx1; obtain ⟨ta5, tn5, tc5, rfl⟩ := g5.sl.shape))
  go_ret
  exact ⟨_, rfl, hx1, g5⟩
set_option maxHeartbeats 1600000 in
set_option maxRecDepth 100000 in
theorem copyJobs_c (w : World) (s0_0 : Value) (l0_0 : List DJob) (h0_0 : Ints 5 w s0_0 (flJob l0_0)) (e0 : l0_0.length ≤ 1000000) :
    Calls Tryz.prog 104 #[s0_0] w (Ret w fun r0 w' => OwnI w.heap.size 123 5 w' r0 (flJob l0_0)) := by
  obtain ⟨a0, n0, k0, rfl⟩ := h0_0.shape
  obtain ⟨i0, hi, hz0, hz1, hz2⟩ := info_parts info_Job
  go_enter Tryz.func104, Tryz.ntmps104
  go_wp2_with (first | (at_builtin; refine wp_append_fresh rfl (.tmp 3) (.tmp 4) 32 rfl 123 i0 _ 5 40 Tryz.underlying32 hi hz0 hz1 hz2 rfl (by decide) w.heap.size (by simp) rfl (.slice a0 n0 k0) ((flJob l0_0).map (.int .i64)) rfl h0_0 (ints_oneCell _ _) 1000000 (by have := length_flJob l0_0; simp; omega) (by unfold maxLen; omega) (by omega) ?_; rotate_right; intro t5 w1 g5 hx1; obtain ⟨ta5, tn5, tc5, rfl⟩ := g5.sl.shape))
  go_ret
  exact ⟨_, rfl, hx1, g5⟩
set_option maxHeartbeats 4000000 in
set_option maxRecDepth 100000 in
theorem copyState_k {w : World} {v : Value} {s : DState} (h : RdState w v s) (e0 : stateSmall s) : Calls Tryz.prog 46 #[v] w (Ret w fun r w' => IsState w.heap.size w' r s) := by
  obtain ⟨e4, e5⟩ := e0
  have H := h
  obtain ⟨t2, t3, rfl, h2, h3⟩ := h
  obtain ⟨a2, n2, k2, rfl⟩ := h2.shape
  obtain ⟨a3, n3, k3, rfl⟩ := h3.shape
  obtain ⟨WP, hWP⟩ : ∃ WP, WP = w.alloc (.cells #[.int .i64 s.Index, .int .i64 s.Time, .slice a2 n2 k2, .slice a3 n3 k3, .int .i64 s.Lease.Holder, .int .i64 s.Lease.Epoch, .int .i64 s.Lease.Until] 35) := ⟨_, rfl⟩
  have hEP : Ext w WP := by rw [hWP]; exact (Ext.refl _).alloc _
  have hsP : WP.heap.size = w.heap.size + 1 := by rw [hWP]; simp
  have KP : Blk WP w.heap.size 35 #[.int .i64 s.Index, .int .i64 s.Time, .slice a2 n2 k2, .slice a3 n3 k3, .int .i64 s.Lease.Holder, .int .i64 s.Lease.Epoch, .int .i64 s.Lease.Until] := by rw [hWP]; exact Blk.new _ _ _
  obtain ⟨W0, hW0⟩ : ∃ W0, W0 = WP.alloc (.cells #[.int .i64 0, .int .i64 0, .slice none 0 0, .slice none 0 0, .int .i64 0, .int .i64 0, .int .i64 0] 35) := ⟨_, rfl⟩
  have hE0 : Ext WP W0 := by rw [hW0]; exact (Ext.refl _).alloc _
  have hs0 : W0.heap.size = w.heap.size + 1 + 1 := by rw [hW0]; simp [hsP]
  have KR : Blk W0 (w.heap.size + 1) 35 #[.int .i64 0, .int .i64 0, .slice none 0 0, .slice none 0 0, .int .i64 0, .int .i64 0, .int .i64 0] := by rw [hW0, ← hsP]; exact Blk.new _ _ _
  have CP0 := (KP.ext hE0).cell; have FP0 := (KP.ext hE0).frozen
  have CR0 := KR.cell; have FR0 := KR.frozen
  have H0 := Lib.hid hW0; have HP := Lib.hid hWP
  clear hW0 hWP
  go_enter Tryz.func46, Tryz.ntmps46
  go_wp2_with fail
  rw [← HP.out, ← H0.out]
  go_region_held3 (fun w' => w'.cell? ⟨w.heap.size, 0, none⟩ = some (.int .i64 s.Index) ∧ w'.cell? ⟨w.heap.size, 1, none⟩ = some (.int .i64 s.Time) ∧ w'.cell? ⟨w.heap.size, 2, none⟩ = some (.slice a2 n2 k2) ∧ w'.cell? ⟨w.heap.size, 3, none⟩ = some (.slice a3 n3 k3) ∧ w'.cell? ⟨w.heap.size, 4, none⟩ = some (.int .i64 s.Lease.Holder) ∧ w'.cell? ⟨w.heap.size, 5, none⟩ = some (.int .i64 s.Lease.Epoch) ∧ w'.cell? ⟨w.heap.size, 6, none⟩ = some (.int .i64 s.Lease.Until)) (first | (refine ⟨((KP.ext ?_).cell 0).trans (by simp), ((KP.ext ?_).cell 1).trans (by simp), ((KP.ext ?_).cell 2).trans (by simp), ((KP.ext ?_).cell 3).trans (by simp), ((KP.ext ?_).cell 4).trans (by simp), ((KP.ext ?_).cell 5).trans (by simp), ((KP.ext ?_).cell 6).trans (by simp)⟩ <;> (repeat' (first | (with_reducible exact Ext.refl _) | (with_reducible assumption) | (with_reducible refine Ext.drewN ?_ _) | (with_reducible refine Ext.drew ?_) | (with_reducible refine Ext.alloc ?_ _) | (with_reducible refine Ext.setCell ?_ ?_ _) | (with_reducible refine Ext.setRow ?_ ?_ _) | (with_reducible exact Nat.le_refl _) | (with_reducible refine Ext.trans ?_ (by assumption)) | omega)); done)) (first | (go_at_call 103; refine (copyPairs_c _ _ s.Pairs ((h2.ext hEP).ext (by repeat' (first | (with_reducible exact Ext.refl _) | (with_reducible assumption) | (with_reducible refine Ext.drewN ?_ _) | (with_reducible refine Ext.drew ?_) | (with_reducible refine Ext.alloc ?_ _) | (with_reducible refine Ext.setCell ?_ ?_ _) | (with_reducible refine Ext.setRow ?_ ?_ _) | (with_reducible exact Nat.le_refl _) | (with_reducible refine Ext.trans ?_ (by assumption)) | omega))) e4).mono ?_; rintro e wa ⟨_, rfl, hxwa, ga⟩; obtain ⟨b2, m2, j2, rfl⟩ := ga.shape; have hzwa := hxwa.size; (try simp only [World.size_setCell, size_drew] at hzwa); have KRwa : Blk wa (w.heap.size + 1) _ _ := KR.ext (by repeat' (first | (with_reducible exact Ext.refl _) | (with_reducible assumption) | (with_reducible refine Ext.drewN ?_ _) | (with_reducible refine Ext.drew ?_) | (with_reducible refine Ext.alloc ?_ _) | (with_reducible refine Ext.setCell ?_ ?_ _) | (with_reducible refine Ext.setRow ?_ ?_ _) | (with_reducible exact Nat.le_refl _) | (with_reducible refine Ext.trans ?_ (by assumption)) | omega)); have CRwa := KRwa.cell; have FRwa := KRwa.frozen) | (go_at_call 104; refine (copyJobs_c _ _ s.Jobs ((h3.ext hEP).ext (by repeat' (first | (with_reducible exact Ext.refl _) | (with_reducible assumption) | (with_reducible refine Ext.drewN ?_ _) | (with_reducible refine Ext.drew ?_) | (with_reducible refine Ext.alloc ?_ _) | (with_reducible refine Ext.setCell ?_ ?_ _) | (with_reducible refine Ext.setRow ?_ ?_ _) | (with_reducible exact Nat.le_refl _) | (with_reducible refine Ext.trans ?_ (by assumption)) | omega))) e5).mono ?_; rintro e wb ⟨_, rfl, hxwb, gb⟩; obtain ⟨b3, m3, j3, rfl⟩ := gb.shape; have hzwb := hxwb.size; (try simp only [World.size_setCell, size_drew] at hzwb); have KRwb : Blk wb (w.heap.size + 1) _ _ := KR.ext (by repeat' (first | (with_reducible exact Ext.refl _) | (with_reducible assumption) | (with_reducible refine Ext.drewN ?_ _) | (with_reducible refine Ext.drew ?_) | (with_reducible refine Ext.alloc ?_ _) | (with_reducible refine Ext.setCell ?_ ?_ _) | (with_reducible refine Ext.setRow ?_ ?_ _) | (with_reducible exact Nat.le_refl _) | (with_reducible refine Ext.trans ?_ (by assumption)) | omega)); have CRwb := KRwb.cell; have FRwb := KRwb.frozen))
  all_goals
    go_wp2_with fail
    refine bodyPost_ret (by simp [results, Tryz.results46, go_sem, *]; try rfl) rfl ?_
    have hq : w.heap.size + 1 < wa.heap.size := by have : W0.heap.size ≤ wa.heap.size := hzwa; omega
    have hr : w.heap.size + 1 < W0.heap.size := by omega
    refine ⟨_, rfl, ?_, _, _, rfl, OwnI.mono (B := W0.heap.size) (OwnI.keep (Own.ext ga hxwb) (by repeat' (first | (with_reducible exact Chg.refl _ _) | (with_reducible refine Chg.drewN ?_ _) | (with_reducible refine Chg.drew ?_) | (with_reducible refine Chg.alloc ?_ _) | (with_reducible refine Chg.setLow ?_ (by omega) _) | (with_reducible refine Chg.setNew ?_ (by omega) _) | (with_reducible refine Chg.setRow ?_ (by omega) _) | (with_reducible refine Chg.ext ?_ (by assumption)) | omega))) (by omega), OwnI.mono (B := W0.heap.size) (OwnI.keep (OwnI.mono gb hzwa) (by repeat' (first | (with_reducible exact Chg.refl _ _) | (with_reducible refine Chg.drewN ?_ _) | (with_reducible refine Chg.drew ?_) | (with_reducible refine Chg.alloc ?_ _) | (with_reducible refine Chg.setLow ?_ (by omega) _) | (with_reducible refine Chg.setNew ?_ (by omega) _) | (with_reducible refine Chg.setRow ?_ (by omega) _) | (with_reducible refine Chg.ext ?_ (by assumption)) | omega))) (by omega)⟩
    exact Ext.trans hEP (by repeat' (first | (with_reducible exact Ext.refl _) | (with_reducible assumption) | (with_reducible refine Ext.drewN ?_ _) | (with_reducible refine Ext.drew ?_) | (with_reducible refine Ext.alloc ?_ _) | (with_reducible refine Ext.setCell ?_ ?_ _) | (with_reducible refine Ext.setRow ?_ ?_ _) | (with_reducible exact Nat.le_refl _) | (with_reducible refine Ext.trans ?_ (by assumption)) | omega))
set_option maxHeartbeats 4000000 in
set_option maxRecDepth 100000 in
theorem l17Copy_k {w : World} {v : Value} {s : DState} (h : RdState w v s) (e0 : stateSmall s) : Calls Tryz.prog 39 #[v] w (Ret w fun r w' => IsState w.heap.size w' r s) := by
  obtain ⟨e4, e5⟩ := e0
  have H := h
  obtain ⟨t2, t3, rfl, h2, h3⟩ := h
  obtain ⟨a2, n2, k2, rfl⟩ := h2.shape
  obtain ⟨a3, n3, k3, rfl⟩ := h3.shape
  obtain ⟨WP, hWP⟩ : ∃ WP, WP = w.alloc (.cells #[.int .i64 s.Index, .int .i64 s.Time, .slice a2 n2 k2, .slice a3 n3 k3, .int .i64 s.Lease.Holder, .int .i64 s.Lease.Epoch, .int .i64 s.Lease.Until] 35) := ⟨_, rfl⟩
  have hEP : Ext w WP := by rw [hWP]; exact (Ext.refl _).alloc _
  have hsP : WP.heap.size = w.heap.size + 1 := by rw [hWP]; simp
  have KP : Blk WP w.heap.size 35 #[.int .i64 s.Index, .int .i64 s.Time, .slice a2 n2 k2, .slice a3 n3 k3, .int .i64 s.Lease.Holder, .int .i64 s.Lease.Epoch, .int .i64 s.Lease.Until] := by rw [hWP]; exact Blk.new _ _ _
  obtain ⟨W0, hW0⟩ : ∃ W0, W0 = WP.alloc (.cells #[.int .i64 0, .int .i64 0, .slice none 0 0, .slice none 0 0, .int .i64 0, .int .i64 0, .int .i64 0] 35) := ⟨_, rfl⟩
  have hE0 : Ext WP W0 := by rw [hW0]; exact (Ext.refl _).alloc _
  have hs0 : W0.heap.size = w.heap.size + 1 + 1 := by rw [hW0]; simp [hsP]
  have KR : Blk W0 (w.heap.size + 1) 35 #[.int .i64 0, .int .i64 0, .slice none 0 0, .slice none 0 0, .int .i64 0, .int .i64 0, .int .i64 0] := by rw [hW0, ← hsP]; exact Blk.new _ _ _
  have CP0 := (KP.ext hE0).cell; have FP0 := (KP.ext hE0).frozen
  have CR0 := KR.cell; have FR0 := KR.frozen
  have H0 := Lib.hid hW0; have HP := Lib.hid hWP
  clear hW0 hWP
  go_enter Tryz.func39, Tryz.ntmps39
  go_wp2_with fail
  rw [← HP.out, ← H0.out]
  refine (l14Copy_c _ _ s.Pairs (h2.ext (hEP.trans hE0)) e4).mono ?_
  rintro e wa ⟨_, rfl, hxa, ga⟩
  obtain ⟨b2, m2, j2, rfl⟩ := ga.shape
  have KPa := (KP.ext hE0).ext hxa; have KRa := KR.ext hxa
  have CPa := KPa.cell; have FPa := KPa.frozen; have CRa := KRa.cell; have FRa := KRa.frozen
  have hEa : Ext w wa := (hEP.trans hE0).trans hxa
  have hza := hxa.size
  go_wp2_with fail
  refine (l15Copy_c _ _ s.Jobs (h3.ext (Ext.setCell hEa (Nat.le_refl _) _)) e5).mono ?_
  rintro e wb ⟨_, rfl, hxb, gb⟩
  obtain ⟨b3, m3, j3, rfl⟩ := gb.shape
  have KPb := (KPa.set_ 2 (.slice b2 m2 j2)).ext hxb
  (try simp only [List.setIfInBounds_toArray, List.set_cons_zero, List.set_cons_succ] at KPb)
  have KRb := (KRa.far (p := ⟨w.heap.size, 2, none⟩) (by simp) (.slice b2 m2 j2)).ext hxb
  have CPb := KPb.cell; have FPb := KPb.frozen; have CRb := KRb.cell; have FRb := KRb.frozen
  clear CPa FPa CRa FRa CP0 FP0 CR0 FR0
  go_wp2_with fail
  refine bodyPost_ret (by simp [results, Tryz.results39, go_sem, *]; try rfl) rfl ?_
  simp only [World.size_setCell] at gb
  have hEb := Lib.hid ((Ext.setCell hEa (Nat.le_refl _) _).trans hxb)
  clear CPb FPb CRb FRb
  refine ⟨_, rfl, by have hEc := hEb.out; clear hxb; repeat' (first | (with_reducible exact Ext.refl _) | (with_reducible assumption) | (with_reducible refine Ext.drewN ?_ _) | (with_reducible refine Ext.drew ?_) | (with_reducible refine Ext.alloc ?_ _) | (with_reducible refine Ext.setCell ?_ ?_ _) | (with_reducible refine Ext.setRow ?_ ?_ _) | (with_reducible exact Nat.le_refl _) | (with_reducible refine Ext.trans ?_ (by assumption)) | omega), _, _, rfl, OwnI.mono (B := W0.heap.size) (OwnI.keep ga (by repeat' (first | (with_reducible exact Chg.refl _ _) | (with_reducible refine Chg.drewN ?_ _) | (with_reducible refine Chg.drew ?_) | (with_reducible refine Chg.alloc ?_ _) | (with_reducible refine Chg.setLow ?_ (by omega) _) | (with_reducible refine Chg.setNew ?_ (by omega) _) | (with_reducible refine Chg.setRow ?_ (by omega) _) | (with_reducible refine Chg.ext ?_ (by assumption)) | omega))) (by omega), OwnI.mono (B := W0.heap.size) (OwnI.keep (OwnI.mono gb hza) (by repeat' (first | (with_reducible exact Chg.refl _ _) | (with_reducible refine Chg.drewN ?_ _) | (with_reducible refine Chg.drew ?_) | (with_reducible refine Chg.alloc ?_ _) | (with_reducible refine Chg.setLow ?_ (by omega) _) | (with_reducible refine Chg.setNew ?_ (by omega) _) | (with_reducible refine Chg.setRow ?_ (by omega) _) | (with_reducible refine Chg.ext ?_ (by assumption)) | omega))) (by omega)⟩

end Go.Proofs.YthdiaijiokoifaaGreat

-- Copies of stores.
set_option linter.unusedSimpArgs false
set_option linter.unusedVariables false
namespace Go.Proofs.YthdiaijiokoifaaGreat
open Go.RowKit Go.G8

theorem store_of {B : Nat} {w : World} {a b c e : Value} {d : DDisk} {st : DState} (hd : IsDisk B w (.agg #[a, b]) d) (hc : OwnI B 139 2 w c (flPair st.Pairs)) (he : OwnI B 123 5 w e (flJob st.Jobs)) (n l y : Int) :
    ∃ F, OwStore B w (.agg #[a, b, .int .i64 st.Index, .int .i64 st.Time, c, e, .int .i64 st.Lease.Holder, .int .i64 st.Lease.Epoch, .int .i64 st.Lease.Until, .int .i64 n, .int .i64 l, .int .i64 y]) ⟨d, st, n, l, y⟩ F := by
  obtain ⟨t0, t1, ss0, ss1, e, h0, h1, hd⟩ := hd
  injection e with e; injection e with e; injection e with e1 e; injection e with e2 _
  subst e1; subst e2
  exact ⟨_, _, _, _, _, ss0, ss1, rfl, h0, h1, hc, he, hd, rfl⟩
set_option maxHeartbeats 8000000 in
set_option maxRecDepth 100000 in
theorem copyStore_k {w : World} {v : Value} {s : DStore} (h : RdStore w v s) (e0 : diskSmall s.Disk) (e1 : stateSmall s.State) : Calls Tryz.prog 75 #[v] w (Ret w fun r w' => ∃ F, OwStore w.heap.size w' r s F) := by
  have H := h
  obtain ⟨t0, t1, t4, t5, rfl, h0, h1, h4, h5⟩ := h
  obtain ⟨a0, n0, k0, rfl⟩ := h0.shape
  obtain ⟨a1, n1, k1, rfl⟩ := h1.shape
  obtain ⟨a4, n4, k4, rfl⟩ := h4.shape
  obtain ⟨a5, n5, k5, rfl⟩ := h5.shape
  have hst : RdState w (.agg #[.int .i64 s.State.Index, .int .i64 s.State.Time, .slice a4 n4 k4, .slice a5 n5 k5, .int .i64 s.State.Lease.Holder, .int .i64 s.State.Lease.Epoch, .int .i64 s.State.Lease.Until]) s.State := ⟨_, _, rfl, h4, h5⟩
  obtain ⟨WP, hWP⟩ : ∃ WP, WP = w.alloc (.cells #[.slice a0 n0 k0, .slice a1 n1 k1, .int .i64 s.State.Index, .int .i64 s.State.Time, .slice a4 n4 k4, .slice a5 n5 k5, .int .i64 s.State.Lease.Holder, .int .i64 s.State.Lease.Epoch, .int .i64 s.State.Lease.Until, .int .i64 s.Num, .int .i64 s.Last, .int .i64 s.Busy] 58) := ⟨_, rfl⟩
  have hEP : Ext w WP := by rw [hWP]; exact (Ext.refl _).alloc _
  have hsP : WP.heap.size = w.heap.size + 1 := by rw [hWP]; simp
  have KP : Blk WP w.heap.size 58 #[.slice a0 n0 k0, .slice a1 n1 k1, .int .i64 s.State.Index, .int .i64 s.State.Time, .slice a4 n4 k4, .slice a5 n5 k5, .int .i64 s.State.Lease.Holder, .int .i64 s.State.Lease.Epoch, .int .i64 s.State.Lease.Until, .int .i64 s.Num, .int .i64 s.Last, .int .i64 s.Busy] := by rw [hWP]; exact Blk.new _ _ _
  obtain ⟨W0, hW0⟩ : ∃ W0, W0 = WP.alloc (.cells #[.slice none 0 0, .slice none 0 0, .int .i64 0, .int .i64 0, .slice none 0 0, .slice none 0 0, .int .i64 0, .int .i64 0, .int .i64 0, .int .i64 0, .int .i64 0, .int .i64 0] 58) := ⟨_, rfl⟩
  have hE0 : Ext WP W0 := by rw [hW0]; exact (Ext.refl _).alloc _
  have hs0 : W0.heap.size = w.heap.size + 1 + 1 := by rw [hW0]; simp [hsP]
  have KR : Blk W0 (w.heap.size + 1) 58 #[.slice none 0 0, .slice none 0 0, .int .i64 0, .int .i64 0, .slice none 0 0, .slice none 0 0, .int .i64 0, .int .i64 0, .int .i64 0, .int .i64 0, .int .i64 0, .int .i64 0] := by rw [hW0, ← hsP]; exact Blk.new _ _ _
  have CP0 := (KP.ext hE0).cell; have FP0 := (KP.ext hE0).frozen
  have CR0 := KR.cell; have FR0 := KR.frozen
  have H0 := Lib.hid hW0; have HP := Lib.hid hWP
  clear hW0 hWP
  go_enter Tryz.func75, Tryz.ntmps75
  go_wp2_with fail
  rw [← HP.out, ← H0.out]
  go_region_held3 (fun w' => w'.cell? ⟨w.heap.size, 0, none⟩ = some (.slice a0 n0 k0) ∧ w'.cell? ⟨w.heap.size, 1, none⟩ = some (.slice a1 n1 k1) ∧ w'.cell? ⟨w.heap.size, 2, none⟩ = some (.int .i64 s.State.Index) ∧ w'.cell? ⟨w.heap.size, 3, none⟩ = some (.int .i64 s.State.Time) ∧ w'.cell? ⟨w.heap.size, 4, none⟩ = some (.slice a4 n4 k4) ∧ w'.cell? ⟨w.heap.size, 5, none⟩ = some (.slice a5 n5 k5) ∧ w'.cell? ⟨w.heap.size, 6, none⟩ = some (.int .i64 s.State.Lease.Holder) ∧ w'.cell? ⟨w.heap.size, 7, none⟩ = some (.int .i64 s.State.Lease.Epoch) ∧ w'.cell? ⟨w.heap.size, 8, none⟩ = some (.int .i64 s.State.Lease.Until) ∧ w'.cell? ⟨w.heap.size, 9, none⟩ = some (.int .i64 s.Num) ∧ w'.cell? ⟨w.heap.size, 10, none⟩ = some (.int .i64 s.Last) ∧ w'.cell? ⟨w.heap.size, 11, none⟩ = some (.int .i64 s.Busy)) (first | (refine ⟨((KP.ext ?_).cell 0).trans (by simp), ((KP.ext ?_).cell 1).trans (by simp), ((KP.ext ?_).cell 2).trans (by simp), ((KP.ext ?_).cell 3).trans (by simp), ((KP.ext ?_).cell 4).trans (by simp), ((KP.ext ?_).cell 5).trans (by simp), ((KP.ext ?_).cell 6).trans (by simp), ((KP.ext ?_).cell 7).trans (by simp), ((KP.ext ?_).cell 8).trans (by simp), ((KP.ext ?_).cell 9).trans (by simp), ((KP.ext ?_).cell 10).trans (by simp), ((KP.ext ?_).cell 11).trans (by simp)⟩ <;> (repeat' (first | (with_reducible exact Ext.refl _) | (with_reducible assumption) | (with_reducible refine Ext.drewN ?_ _) | (with_reducible refine Ext.drew ?_) | (with_reducible refine Ext.alloc ?_ _) | (with_reducible refine Ext.setCell ?_ ?_ _) | (with_reducible refine Ext.setRow ?_ ?_ _) | (with_reducible exact Nat.le_refl _) | (with_reducible refine Ext.trans ?_ (by assumption)) | omega)); done)) (first | (go_at_call 118; refine (copyDisk_c _ _ s.Disk.Kept _ s.Disk.Wait ((h0.ext hEP).ext (by repeat' (first | (with_reducible exact Ext.refl _) | (with_reducible assumption) | (with_reducible refine Ext.drewN ?_ _) | (with_reducible refine Ext.drew ?_) | (with_reducible refine Ext.alloc ?_ _) | (with_reducible refine Ext.setCell ?_ ?_ _) | (with_reducible refine Ext.setRow ?_ ?_ _) | (with_reducible exact Nat.le_refl _) | (with_reducible refine Ext.trans ?_ (by assumption)) | omega))) ((h1.ext hEP).ext (by repeat' (first | (with_reducible exact Ext.refl _) | (with_reducible assumption) | (with_reducible refine Ext.drewN ?_ _) | (with_reducible refine Ext.drew ?_) | (with_reducible refine Ext.alloc ?_ _) | (with_reducible refine Ext.setCell ?_ ?_ _) | (with_reducible refine Ext.setRow ?_ ?_ _) | (with_reducible exact Nat.le_refl _) | (with_reducible refine Ext.trans ?_ (by assumption)) | omega))) e0).mono ?_; rintro e wa ⟨_, rfl, hxwa, ga⟩; obtain ⟨b0, m0, j0, b1, m1, j1, rfl⟩ := ga.shape; have hzwa := hxwa.size; (try simp only [World.size_setCell, size_drew] at hzwa); have KRwa : Blk wa (w.heap.size + 1) _ _ := KR.ext (by repeat' (first | (with_reducible exact Ext.refl _) | (with_reducible assumption) | (with_reducible refine Ext.drewN ?_ _) | (with_reducible refine Ext.drew ?_) | (with_reducible refine Ext.alloc ?_ _) | (with_reducible refine Ext.setCell ?_ ?_ _) | (with_reducible refine Ext.setRow ?_ ?_ _) | (with_reducible exact Nat.le_refl _) | (with_reducible refine Ext.trans ?_ (by assumption)) | omega)); have CRwa := KRwa.cell; have FRwa := KRwa.frozen) | (go_at_call 46; refine (copyState_k ((hst.ext hEP).ext (by repeat' (first | (with_reducible exact Ext.refl _) | (with_reducible assumption) | (with_reducible refine Ext.drewN ?_ _) | (with_reducible refine Ext.drew ?_) | (with_reducible refine Ext.alloc ?_ _) | (with_reducible refine Ext.setCell ?_ ?_ _) | (with_reducible refine Ext.setRow ?_ ?_ _) | (with_reducible exact Nat.le_refl _) | (with_reducible refine Ext.trans ?_ (by assumption)) | omega))) e1).mono ?_; rintro e wb ⟨_, rfl, hxwb, gb⟩; obtain ⟨u4, u5, rfl, g4, g5⟩ := gb; obtain ⟨b4, m4, j4, rfl⟩ := g4.shape; obtain ⟨b5, m5, j5, rfl⟩ := g5.shape; have hzwb := hxwb.size; (try simp only [World.size_setCell, size_drew] at hzwb); have KRwb : Blk wb (w.heap.size + 1) _ _ := KR.ext (by repeat' (first | (with_reducible exact Ext.refl _) | (with_reducible assumption) | (with_reducible refine Ext.drewN ?_ _) | (with_reducible refine Ext.drew ?_) | (with_reducible refine Ext.alloc ?_ _) | (with_reducible refine Ext.setCell ?_ ?_ _) | (with_reducible refine Ext.setRow ?_ ?_ _) | (with_reducible exact Nat.le_refl _) | (with_reducible refine Ext.trans ?_ (by assumption)) | omega)); have CRwb := KRwb.cell; have FRwb := KRwb.frozen))
  all_goals
    go_wp2_with fail
    refine bodyPost_ret (by simp [results, Tryz.results75, go_sem, *]; try rfl) rfl ?_
    have hq : w.heap.size + 1 < wa.heap.size := by have : W0.heap.size ≤ wa.heap.size := hzwa; omega
    have hr : w.heap.size + 1 < W0.heap.size := by omega
    refine ⟨_, rfl, ?_, store_of (IsDisk.mono (B := W0.heap.size) (IsDisk.keep (IsDisk.ext ga hxwb) (by repeat' (first | (with_reducible exact Chg.refl _ _) | (with_reducible refine Chg.drewN ?_ _) | (with_reducible refine Chg.drew ?_) | (with_reducible refine Chg.alloc ?_ _) | (with_reducible refine Chg.setLow ?_ (by omega) _) | (with_reducible refine Chg.setNew ?_ (by omega) _) | (with_reducible refine Chg.setRow ?_ (by omega) _) | (with_reducible refine Chg.ext ?_ (by assumption)) | omega))) (by omega)) (OwnI.mono (B := W0.heap.size) (OwnI.keep (OwnI.mono g4 hzwa) (by repeat' (first | (with_reducible exact Chg.refl _ _) | (with_reducible refine Chg.drewN ?_ _) | (with_reducible refine Chg.drew ?_) | (with_reducible refine Chg.alloc ?_ _) | (with_reducible refine Chg.setLow ?_ (by omega) _) | (with_reducible refine Chg.setNew ?_ (by omega) _) | (with_reducible refine Chg.setRow ?_ (by omega) _) | (with_reducible refine Chg.ext ?_ (by assumption)) | omega))) (by omega)) (OwnI.mono (B := W0.heap.size) (OwnI.keep (OwnI.mono g5 hzwa) (by repeat' (first | (with_reducible exact Chg.refl _ _) | (with_reducible refine Chg.drewN ?_ _) | (with_reducible refine Chg.drew ?_) | (with_reducible refine Chg.alloc ?_ _) | (with_reducible refine Chg.setLow ?_ (by omega) _) | (with_reducible refine Chg.setNew ?_ (by omega) _) | (with_reducible refine Chg.setRow ?_ (by omega) _) | (with_reducible refine Chg.ext ?_ (by assumption)) | omega))) (by omega)) _ _ _⟩
    exact Ext.trans hEP (by repeat' (first | (with_reducible exact Ext.refl _) | (with_reducible assumption) | (with_reducible refine Ext.drewN ?_ _) | (with_reducible refine Ext.drew ?_) | (with_reducible refine Ext.alloc ?_ _) | (with_reducible refine Ext.setCell ?_ ?_ _) | (with_reducible refine Ext.setRow ?_ ?_ _) | (with_reducible exact Nat.le_refl _) | (with_reducible refine Ext.trans ?_ (by assumption)) | omega))
set_option maxHeartbeats 8000000 in
set_option maxRecDepth 100000 in
theorem l19Copy_k {w : World} {v : Value} {s : DStore} (h : RdStore w v s) (e0 : diskSmall s.Disk) (e1 : stateSmall s.State) : Calls Tryz.prog 73 #[v] w (Ret w fun r w' => ∃ F, OwStore w.heap.size w' r s F) := by
  have H := h
  obtain ⟨t0, t1, t4, t5, rfl, h0, h1, h4, h5⟩ := h
  obtain ⟨a0, n0, k0, rfl⟩ := h0.shape
  obtain ⟨a1, n1, k1, rfl⟩ := h1.shape
  obtain ⟨a4, n4, k4, rfl⟩ := h4.shape
  obtain ⟨a5, n5, k5, rfl⟩ := h5.shape
  have hst : RdState w (.agg #[.int .i64 s.State.Index, .int .i64 s.State.Time, .slice a4 n4 k4, .slice a5 n5 k5, .int .i64 s.State.Lease.Holder, .int .i64 s.State.Lease.Epoch, .int .i64 s.State.Lease.Until]) s.State := ⟨_, _, rfl, h4, h5⟩
  obtain ⟨WP, hWP⟩ : ∃ WP, WP = w.alloc (.cells #[.slice a0 n0 k0, .slice a1 n1 k1, .int .i64 s.State.Index, .int .i64 s.State.Time, .slice a4 n4 k4, .slice a5 n5 k5, .int .i64 s.State.Lease.Holder, .int .i64 s.State.Lease.Epoch, .int .i64 s.State.Lease.Until, .int .i64 s.Num, .int .i64 s.Last, .int .i64 s.Busy] 58) := ⟨_, rfl⟩
  have hEP : Ext w WP := by rw [hWP]; exact (Ext.refl _).alloc _
  have hsP : WP.heap.size = w.heap.size + 1 := by rw [hWP]; simp
  have KP : Blk WP w.heap.size 58 #[.slice a0 n0 k0, .slice a1 n1 k1, .int .i64 s.State.Index, .int .i64 s.State.Time, .slice a4 n4 k4, .slice a5 n5 k5, .int .i64 s.State.Lease.Holder, .int .i64 s.State.Lease.Epoch, .int .i64 s.State.Lease.Until, .int .i64 s.Num, .int .i64 s.Last, .int .i64 s.Busy] := by rw [hWP]; exact Blk.new _ _ _
  obtain ⟨W0, hW0⟩ : ∃ W0, W0 = WP.alloc (.cells #[.slice none 0 0, .slice none 0 0, .int .i64 0, .int .i64 0, .slice none 0 0, .slice none 0 0, .int .i64 0, .int .i64 0, .int .i64 0, .int .i64 0, .int .i64 0, .int .i64 0] 58) := ⟨_, rfl⟩
  have hE0 : Ext WP W0 := by rw [hW0]; exact (Ext.refl _).alloc _
  have hs0 : W0.heap.size = w.heap.size + 1 + 1 := by rw [hW0]; simp [hsP]
  have KR : Blk W0 (w.heap.size + 1) 58 #[.slice none 0 0, .slice none 0 0, .int .i64 0, .int .i64 0, .slice none 0 0, .slice none 0 0, .int .i64 0, .int .i64 0, .int .i64 0, .int .i64 0, .int .i64 0, .int .i64 0] := by rw [hW0, ← hsP]; exact Blk.new _ _ _
  have CP0 := (KP.ext hE0).cell; have FP0 := (KP.ext hE0).frozen
  have CR0 := KR.cell; have FR0 := KR.frozen
  have H0 := Lib.hid hW0; have HP := Lib.hid hWP
  clear hW0 hWP
  go_enter Tryz.func73, Tryz.ntmps73
  go_wp2_with fail
  rw [← HP.out, ← H0.out]
  refine (l3Copy_c _ _ s.Disk.Kept _ s.Disk.Wait (h0.ext (hEP.trans hE0)) (h1.ext (hEP.trans hE0)) e0).mono ?_
  rintro e wa ⟨_, rfl, hxa, ga⟩
  obtain ⟨b0, m0, j0, b1, m1, j1, rfl⟩ := ga.shape
  have KPa := (KP.ext hE0).ext hxa; have KRa := KR.ext hxa
  have CPa := KPa.cell; have FPa := KPa.frozen; have CRa := KRa.cell; have FRa := KRa.frozen
  have hEa : Ext w wa := (hEP.trans hE0).trans hxa
  have hza := hxa.size
  go_wp2_with fail
  refine (l17Copy_k (hst.ext (Ext.setCell (Ext.setCell hEa (Nat.le_refl _) _) (Nat.le_refl _) _)) e1).mono ?_
  rintro e wb ⟨_, rfl, hxb, gb⟩
  obtain ⟨u4, u5, rfl, g4, g5⟩ := gb
  obtain ⟨b4, m4, j4, rfl⟩ := g4.shape
  obtain ⟨b5, m5, j5, rfl⟩ := g5.shape
  have KPb := ((KPa.set_ 0 (.slice b0 m0 j0)).set_ 1 (.slice b1 m1 j1)).ext hxb
  (try simp only [List.setIfInBounds_toArray, List.set_cons_zero, List.set_cons_succ] at KPb)
  have KRb := ((KRa.far (p := ⟨w.heap.size, 0, none⟩) (by simp) (.slice b0 m0 j0)).far (p := ⟨w.heap.size, 1, none⟩) (by simp) (.slice b1 m1 j1)).ext hxb
  have CPb := KPb.cell; have FPb := KPb.frozen; have CRb := KRb.cell; have FRb := KRb.frozen
  clear CPa FPa CRa FRa CP0 FP0 CR0 FR0
  go_wp2_with fail
  refine bodyPost_ret (by simp [results, Tryz.results73, go_sem, *]; try rfl) rfl ?_
  simp only [World.size_setCell] at g4 g5
  have hEb := Lib.hid ((Ext.setCell (Ext.setCell hEa (Nat.le_refl _) _) (Nat.le_refl _) _).trans hxb)
  clear CPb FPb CRb FRb
  refine ⟨_, rfl, by have hEc := hEb.out; clear hxb; repeat' (first | (with_reducible exact Ext.refl _) | (with_reducible assumption) | (with_reducible refine Ext.drewN ?_ _) | (with_reducible refine Ext.drew ?_) | (with_reducible refine Ext.alloc ?_ _) | (with_reducible refine Ext.setCell ?_ ?_ _) | (with_reducible refine Ext.setRow ?_ ?_ _) | (with_reducible exact Nat.le_refl _) | (with_reducible refine Ext.trans ?_ (by assumption)) | omega), store_of (IsDisk.mono (B := W0.heap.size) (IsDisk.keep ga (by repeat' (first | (with_reducible exact Chg.refl _ _) | (with_reducible refine Chg.drewN ?_ _) | (with_reducible refine Chg.drew ?_) | (with_reducible refine Chg.alloc ?_ _) | (with_reducible refine Chg.setLow ?_ (by omega) _) | (with_reducible refine Chg.setNew ?_ (by omega) _) | (with_reducible refine Chg.setRow ?_ (by omega) _) | (with_reducible refine Chg.ext ?_ (by assumption)) | omega))) (by omega)) (OwnI.mono (B := W0.heap.size) (OwnI.keep (OwnI.mono g4 hza) (by repeat' (first | (with_reducible exact Chg.refl _ _) | (with_reducible refine Chg.drewN ?_ _) | (with_reducible refine Chg.drew ?_) | (with_reducible refine Chg.alloc ?_ _) | (with_reducible refine Chg.setLow ?_ (by omega) _) | (with_reducible refine Chg.setNew ?_ (by omega) _) | (with_reducible refine Chg.setRow ?_ (by omega) _) | (with_reducible refine Chg.ext ?_ (by assumption)) | omega))) (by omega)) (OwnI.mono (B := W0.heap.size) (OwnI.keep (OwnI.mono g5 hza) (by repeat' (first | (with_reducible exact Chg.refl _ _) | (with_reducible refine Chg.drewN ?_ _) | (with_reducible refine Chg.drew ?_) | (with_reducible refine Chg.alloc ?_ _) | (with_reducible refine Chg.setLow ?_ (by omega) _) | (with_reducible refine Chg.setNew ?_ (by omega) _) | (with_reducible refine Chg.setRow ?_ (by omega) _) | (with_reducible refine Chg.ext ?_ (by assumption)) | omega))) (by omega)) _ _ _⟩

end Go.Proofs.YthdiaijiokoifaaGreat

-- Snapshots that are synced.
set_option linter.unusedSimpArgs false
set_option linter.unusedVariables false
namespace Go.Proofs.YthdiaijiokoifaaGreat
open Go.RowKit Go.G8

end Go.Proofs.YthdiaijiokoifaaGreat
namespace Go.G8
open Go.RowKit
theorem stateOk_small {s : DState} (h : stateOk s = true) : stateSmall s := by
  simp only [stateOk, Bool.and_eq_true] at h
  obtain ⟨_, _, hp, hj, _⟩ := h
  have hp := pairsOk_iff.1 hp
  have hj := jobsOk_iff.1 hj
  refine ⟨?_, ?_⟩
  · rcases Nat.lt_or_ge 10 s.Pairs.length with h | h
    · have h1 : s.Pairs[10]? = some s.Pairs[10] := List.getElem?_eq_getElem h
      have h2 := PairsOk.key hp 10 _ h1
      have h3 := (hp 10 h _ h1).1
      simp only [pairOk, Bool.and_eq_true, inb_true] at h3
      omega
    · omega
  · have := hj.1
    omega
noncomputable def ssStore (s : DStore) : DStore := if storeOk s then (if s.Busy = 0 then s else ⟨fallenDisk true [] s.Disk, s.State, s.Num + 1, s.Busy, 0⟩) else ⟨⟨[], []⟩, ⟨0, 0, [], [], ⟨0, 0, 0⟩⟩, 0, 0, 0⟩
theorem storeOk_num {s : DStore} (h : storeOk s = true) : 0 ≤ s.Num ∧ s.Num ≤ 1000000000 := by
  simp only [storeOk, Bool.and_eq_true] at h
  exact inb_true.1 h.2.2.1
end Go.G8
namespace Go.Proofs.YthdiaijiokoifaaGreat
open Go.RowKit Go.G8
theorem OwnI.low {B : Nat} {e : TypeId} {n : Nat} {w : World} {v : Value} {xs : List Int} {k i : Nat} (h : OwnI B e n w v xs) (hk : k < B) (u : Value) : OwnI B e n (w.setCell ⟨k, i, none⟩ u) v xs := OwnI.keep h ((Chg.refl B w).setLow hk u)
theorem OwnI.drewd {B : Nat} {e : TypeId} {n : Nat} {w : World} {v : Value} {xs : List Int} (h : OwnI B e n w v xs) : OwnI B e n w.drew v xs := OwnI.keep h ((Chg.refl B w).drew)
theorem OwnI.boxed {B : Nat} {e t : TypeId} {n : Nat} {w : World} {v : Value} {xs : List Int} {X i : Nat} {a : Array Value} (h : OwnI B e n w v xs) (hX : Blk w X t a) (ht : t ≠ e) (u : Value) : OwnI B e n (w.setCell ⟨X, i, none⟩ u) v xs :=
  OwnI.upd' h (fs := [X]) ((Upd.refl _ _).setCell (by simp) _) (fun k hk hk' => by
    simp at hk'
    obtain ⟨cur, hb⟩ := h.typed hk
    rw [hk'] at hb
    exact ht (hX.same hb))
theorem nState (s : DStore) (h : storeOk s = true) : s.State.Pairs.length ≤ 1000000 ∧ s.State.Jobs.length ≤ 1000000 := stateOk_small (storeOk_state h)
theorem nSs (s : DStore) : nStore (ssStore s) ≤ 100000000 := by
  unfold ssStore
  split
  · rename_i h
    obtain ⟨h1, h2⟩ := nState s h
    have h3 := nDisk_ok (storeOk_disk h)
    have h4 := fallenDisk_n [] true s.Disk
    split
    · rw [nStore_eq]; omega
    · rw [nStore_eq]; simp only []; omega
  · simp [nStore, tot, nestInt64S, nestWrite]

end Go.Proofs.YthdiaijiokoifaaGreat
