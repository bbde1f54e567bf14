/- Contracts and plain laws: Q11a Sum Num Num2. -/
import Derived.Test.YtemfcogdjmjplaaGreatGe
import Derived.Test.YtemfcogdjmjplaaGreatGd
-- Copies of states.
set_option linter.unusedSimpArgs false
set_option linter.unusedVariables false
namespace Go.Proofs.YtemfcogdjmjplaaGreat
open Go.RowKit Go.G8

end Go.Proofs.YtemfcogdjmjplaaGreat
namespace Go.G8
open Go.RowKit
def stateSmall (s : DState) : Prop := s.Pairs.length ≤ 1000000 ∧ s.Jobs.length ≤ 1000000
end Go.G8
namespace Go.Proofs.YtemfcogdjmjplaaGreat
open Go.RowKit Go.G8
set_option maxHeartbeats 1600000 in
set_option maxRecDepth 100000 in
theorem l14Copy_c (w : World) (s0_0 : Value) (l0_0 : List DPair) (h0_0 : Ints 2 w s0_0 (flPair l0_0)) (e0 : l0_0.length ≤ 1000000) :
    Calls Tryz.prog 154 #[s0_0] w (Ret w fun r0 w' => OwnI w.heap.size 114 2 w' r0 (flPair l0_0)) := by
  obtain ⟨a0, n0, k0, rfl⟩ := h0_0.shape
  obtain ⟨i0, hi, hz0, hz1, hz2⟩ := info_parts info_Pair
  go_enter Tryz.func154, Tryz.ntmps154
  go_wp2_with (first | (at_builtin; refine wp_append_fresh rfl (.tmp 3) (.tmp 4) 42 rfl 114 i0 _ 2 16 Tryz.underlying42 hi hz0 hz1 hz2 rfl (by decide) w.heap.size (by simp) rfl (.slice a0 n0 k0) ((flPair l0_0).map (.int .i64)) rfl h0_0 (ints_oneCell _ _) 1000000 (by have := length_flPair l0_0; simp; omega) (by unfold maxLen; omega) (by omega) ?_; rotate_right; intro t5 w1 g5 hx1; obtain ⟨ta5, tn5, tc5, rfl⟩ := g5.sl.shape))
  go_ret
  exact ⟨_, rfl, hx1, g5⟩
set_option maxHeartbeats 1600000 in
set_option maxRecDepth 100000 in
theorem copyPairs_c (w : World) (s0_0 : Value) (l0_0 : List DPair) (h0_0 : Ints 2 w s0_0 (flPair l0_0)) (e0 : l0_0.length ≤ 1000000) :
    Calls Tryz.prog 170 #[s0_0] w (Ret w fun r0 w' => OwnI w.heap.size 114 2 w' r0 (flPair l0_0)) := by
  obtain ⟨a0, n0, k0, rfl⟩ := h0_0.shape
  obtain ⟨i0, hi, hz0, hz1, hz2⟩ := info_parts info_Pair
  go_enter Tryz.func170, Tryz.ntmps170
  go_wp2_with (first | (at_builtin; refine wp_append_fresh rfl (.tmp 3) (.tmp 4) 42 rfl 114 i0 _ 2 16 Tryz.underlying42 hi hz0 hz1 hz2 rfl (by decide) w.heap.size (by simp) rfl (.slice a0 n0 k0) ((flPair l0_0).map (.int .i64)) rfl h0_0 (ints_oneCell _ _) 1000000 (by have := length_flPair l0_0; simp; omega) (by unfold maxLen; omega) (by omega) ?_; rotate_right; intro t5 w1 g5 hx1; obtain ⟨ta5, tn5, tc5, rfl⟩ := g5.sl.shape))
  go_ret
  exact ⟨_, rfl, hx1, g5⟩
set_option maxHeartbeats 1600000 in
set_option maxRecDepth 100000 in
theorem l15Copy_c (w : World) (s0_0 : Value) (l0_0 : List DJob) (h0_0 : Ints 5 w s0_0 (flJob l0_0)) (e0 : l0_0.length ≤ 1000000) :
    Calls Tryz.prog 155 #[s0_0] w (Ret w fun r0 w' => OwnI w.heap.size 138 5 w' r0 (flJob l0_0)) := by
  obtain ⟨a0, n0, k0, rfl⟩ := h0_0.shape
  obtain ⟨i0, hi, hz0, hz1, hz2⟩ := info_parts info_Job
  go_enter Tryz.func155, Tryz.ntmps155
  go_wp2_with (first | (at_builtin; refine wp_append_fresh rfl (.tmp 3) (.tmp 4) 43 rfl 138 i0 _ 5 40 Tryz.underlying43 hi hz0 hz1 hz2 rfl (by decide) w.heap.size (by simp) rfl (.slice a0 n0 k0) ((flJob l0_0).map (.int .i64)) rfl h0_0 (ints_oneCell _ _) 1000000 (by have := length_flJob l0_0; simp; omega) (by unfold maxLen; omega) (by omega) ?_; rotate_right; intro t5 w1 g5 hx1; obtain ⟨ta5, tn5, tc5, rfl⟩ := g5.sl.shape))
  go_ret
  exact ⟨_, rfl, hx1, g5⟩
set_option maxHeartbeats 1600000 in
set_option maxRecDepth 100000 in
theorem copyJobs_c (w : World) (s0_0 : Value) (l0_0 : List DJob) (h0_0 : Ints 5 w s0_0 (flJob l0_0)) (e0 : l0_0.length ≤ 1000000) :
    Calls Tryz.prog 171 #[s0_0] w (Ret w fun r0 w' => OwnI w.heap.size 138 5 w' r0 (flJob l0_0)) := by
  obtain ⟨a0, n0, k0, rfl⟩ := h0_0.shape
  obtain ⟨i0, hi, hz0, hz1, hz2⟩ := info_parts info_Job
  go_enter Tryz.func171, Tryz.ntmps171
  go_wp2_with (first | (at_builtin; refine wp_append_fresh rfl (.tmp 3) (.tmp 4) 43 rfl 138 i0 _ 5 40 Tryz.underlying43 hi hz0 hz1 hz2 rfl (by decide) w.heap.size (by simp) rfl (.slice a0 n0 k0) ((flJob l0_0).map (.int .i64)) rfl h0_0 (ints_oneCell _ _) 1000000 (by have := length_flJob l0_0; simp; omega) (by unfold maxLen; omega) (by omega) ?_; rotate_right; intro t5 w1 g5 hx1; obtain ⟨ta5, tn5, tc5, rfl⟩ := g5.sl.shape))
  go_ret
  exact ⟨_, rfl, hx1, g5⟩
set_option maxHeartbeats 4000000 in
set_option maxRecDepth 100000 in
theorem copyState_k {w : World} {v : Value} {s : DState} (h : RdState w v s) (e0 : stateSmall s) : Calls Tryz.prog 100 #[v] w (Ret w fun r w' => IsState w.heap.size w' r s) := by
  obtain ⟨e4, e5⟩ := e0
  have H := h
  obtain ⟨t2, t3, rfl, h2, h3⟩ := h
  obtain ⟨a2, n2, k2, rfl⟩ := h2.shape
  obtain ⟨a3, n3, k3, rfl⟩ := h3.shape
  obtain ⟨WP, hWP⟩ : ∃ WP, WP = w.alloc (.cells #[.int .i64 s.Index, .int .i64 s.Time, .slice a2 n2 k2, .slice a3 n3 k3, .int .i64 s.Lease.Holder, .int .i64 s.Lease.Epoch, .int .i64 s.Lease.Until] 46) := ⟨_, rfl⟩
  have hEP : Ext w WP := by rw [hWP]; exact (Ext.refl _).alloc _
  have hsP : WP.heap.size = w.heap.size + 1 := by rw [hWP]; simp
  have KP : Blk WP w.heap.size 46 #[.int .i64 s.Index, .int .i64 s.Time, .slice a2 n2 k2, .slice a3 n3 k3, .int .i64 s.Lease.Holder, .int .i64 s.Lease.Epoch, .int .i64 s.Lease.Until] := by rw [hWP]; exact Blk.new _ _ _
  obtain ⟨W0, hW0⟩ : ∃ W0, W0 = WP.alloc (.cells #[.int .i64 0, .int .i64 0, .slice none 0 0, .slice none 0 0, .int .i64 0, .int .i64 0, .int .i64 0] 46) := ⟨_, rfl⟩
  have hE0 : Ext WP W0 := by rw [hW0]; exact (Ext.refl _).alloc _
  have hs0 : W0.heap.size = w.heap.size + 1 + 1 := by rw [hW0]; simp [hsP]
  have KR : Blk W0 (w.heap.size + 1) 46 #[.int .i64 0, .int .i64 0, .slice none 0 0, .slice none 0 0, .int .i64 0, .int .i64 0, .int .i64 0] := by rw [hW0, ← hsP]; exact Blk.new _ _ _
  have CP0 := (KP.ext hE0).cell; have FP0 := (KP.ext hE0).frozen
  have CR0 := KR.cell; have FR0 := KR.frozen
  have H0 := Lib.hid hW0; have HP := Lib.hid hWP
  clear hW0 hWP
  go_enter Tryz.func100, Tryz.ntmps100
  go_wp2_with fail
  rw [← HP.out, ← H0.out]
  go_region_held3 (fun w' => w'.cell? ⟨w.heap.size, 0, none⟩ = some (.int .i64 s.Index) ∧ w'.cell? ⟨w.heap.size, 1, none⟩ = some (.int .i64 s.Time) ∧ w'.cell? ⟨w.heap.size, 2, none⟩ = some (.slice a2 n2 k2) ∧ w'.cell? ⟨w.heap.size, 3, none⟩ = some (.slice a3 n3 k3) ∧ w'.cell? ⟨w.heap.size, 4, none⟩ = some (.int .i64 s.Lease.Holder) ∧ w'.cell? ⟨w.heap.size, 5, none⟩ = some (.int .i64 s.Lease.Epoch) ∧ w'.cell? ⟨w.heap.size, 6, none⟩ = some (.int .i64 s.Lease.Until)) (first | (refine ⟨((KP.ext ?_).cell 0).trans (by simp), ((KP.ext ?_).cell 1).trans (by simp), ((KP.ext ?_).cell 2).trans (by simp), ((KP.ext ?_).cell 3).trans (by simp), ((KP.ext ?_).cell 4).trans (by simp), ((KP.ext ?_).cell 5).trans (by simp), ((KP.ext ?_).cell 6).trans (by simp)⟩ <;> (repeat' (first | (with_reducible exact Ext.refl _) | (with_reducible assumption) | (with_reducible refine Ext.drewN ?_ _) | (with_reducible refine Ext.drew ?_) | (with_reducible refine Ext.alloc ?_ _) | (with_reducible refine Ext.setCell ?_ ?_ _) | (with_reducible refine Ext.setRow ?_ ?_ _) | (with_reducible exact Nat.le_refl _) | (with_reducible refine Ext.trans ?_ (by assumption)) | omega)); done)) (first | (go_at_call 170; refine (copyPairs_c _ _ s.Pairs ((h2.ext hEP).ext (by repeat' (first | (with_reducible exact Ext.refl _) | (with_reducible assumption) | (with_reducible refine Ext.drewN ?_ _) | (with_reducible refine Ext.drew ?_) | (with_reducible refine Ext.alloc ?_ _) | (with_reducible refine Ext.setCell ?_ ?_ _) | (with_reducible refine Ext.setRow ?_ ?_ _) | (with_reducible exact Nat.le_refl _) | (with_reducible refine Ext.trans ?_ (by assumption)) | omega))) e4).mono ?_; rintro e wa ⟨_, rfl, hxwa, ga⟩; obtain ⟨b2, m2, j2, rfl⟩ := ga.shape; have hzwa := hxwa.size; (try simp only [World.size_setCell, size_drew] at hzwa); have KRwa : Blk wa (w.heap.size + 1) _ _ := KR.ext (by repeat' (first | (with_reducible exact Ext.refl _) | (with_reducible assumption) | (with_reducible refine Ext.drewN ?_ _) | (with_reducible refine Ext.drew ?_) | (with_reducible refine Ext.alloc ?_ _) | (with_reducible refine Ext.setCell ?_ ?_ _) | (with_reducible refine Ext.setRow ?_ ?_ _) | (with_reducible exact Nat.le_refl _) | (with_reducible refine Ext.trans ?_ (by assumption)) | omega)); have CRwa := KRwa.cell; have FRwa := KRwa.frozen) | (go_at_call 171; refine (copyJobs_c _ _ s.Jobs ((h3.ext hEP).ext (by repeat' (first | (with_reducible exact Ext.refl _) | (with_reducible assumption) | (with_reducible refine Ext.drewN ?_ _) | (with_reducible refine Ext.drew ?_) | (with_reducible refine Ext.alloc ?_ _) | (with_reducible refine Ext.setCell ?_ ?_ _) | (with_reducible refine Ext.setRow ?_ ?_ _) | (with_reducible exact Nat.le_refl _) | (with_reducible refine Ext.trans ?_ (by assumption)) | omega))) e5).mono ?_; rintro e wb ⟨_, rfl, hxwb, gb⟩; obtain ⟨b3, m3, j3, rfl⟩ := gb.shape; have hzwb := hxwb.size; (try simp only [World.size_setCell, size_drew] at hzwb); have KRwb : Blk wb (w.heap.size + 1) _ _ := KR.ext (by repeat' (first | (with_reducible exact Ext.refl _) | (with_reducible assumption) | (with_reducible refine Ext.drewN ?_ _) | (with_reducible refine Ext.drew ?_) | (with_reducible refine Ext.alloc ?_ _) | (with_reducible refine Ext.setCell ?_ ?_ _) | (with_reducible refine Ext.setRow ?_ ?_ _) | (with_reducible exact Nat.le_refl _) | (with_reducible refine Ext.trans ?_ (by assumption)) | omega)); have CRwb := KRwb.cell; have FRwb := KRwb.frozen))
  all_goals
    go_wp2_with fail
    refine bodyPost_ret (by simp [results, Tryz.results100, go_sem, *]; try rfl) rfl ?_
    have hq : w.heap.size + 1 < wa.heap.size := by have : W0.heap.size ≤ wa.heap.size := hzwa; omega
    have hr : w.heap.size + 1 < W0.heap.size := by omega
    refine ⟨_, rfl, ?_, _, _, rfl, OwnI.mono (B := W0.heap.size) (OwnI.keep (Own.ext ga hxwb) (by repeat' (first | (with_reducible exact Chg.refl _ _) | (with_reducible refine Chg.drewN ?_ _) | (with_reducible refine Chg.drew ?_) | (with_reducible refine Chg.alloc ?_ _) | (with_reducible refine Chg.setLow ?_ (by omega) _) | (with_reducible refine Chg.setNew ?_ (by omega) _) | (with_reducible refine Chg.setRow ?_ (by omega) _) | (with_reducible refine Chg.ext ?_ (by assumption)) | omega))) (by omega), OwnI.mono (B := W0.heap.size) (OwnI.keep (OwnI.mono gb hzwa) (by repeat' (first | (with_reducible exact Chg.refl _ _) | (with_reducible refine Chg.drewN ?_ _) | (with_reducible refine Chg.drew ?_) | (with_reducible refine Chg.alloc ?_ _) | (with_reducible refine Chg.setLow ?_ (by omega) _) | (with_reducible refine Chg.setNew ?_ (by omega) _) | (with_reducible refine Chg.setRow ?_ (by omega) _) | (with_reducible refine Chg.ext ?_ (by assumption)) | omega))) (by omega)⟩
    exact Ext.trans hEP (by repeat' (first | (with_reducible exact Ext.refl _) | (with_reducible assumption) | (with_reducible refine Ext.drewN ?_ _) | (with_reducible refine Ext.drew ?_) | (with_reducible refine Ext.alloc ?_ _) | (with_reducible refine Ext.setCell ?_ ?_ _) | (with_reducible refine Ext.setRow ?_ ?_ _) | (with_reducible exact Nat.le_refl _) | (with_reducible refine Ext.trans ?_ (by assumption)) | omega))
set_option maxHeartbeats 4000000 in
set_option maxRecDepth 100000 in
theorem l17Copy_k {w : World} {v : Value} {s : DState} (h : RdState w v s) (e0 : stateSmall s) : Calls Tryz.prog 83 #[v] w (Ret w fun r w' => IsState w.heap.size w' r s) := by
  obtain ⟨e4, e5⟩ := e0
  have H := h
  obtain ⟨t2, t3, rfl, h2, h3⟩ := h
  obtain ⟨a2, n2, k2, rfl⟩ := h2.shape
  obtain ⟨a3, n3, k3, rfl⟩ := h3.shape
  obtain ⟨WP, hWP⟩ : ∃ WP, WP = w.alloc (.cells #[.int .i64 s.Index, .int .i64 s.Time, .slice a2 n2 k2, .slice a3 n3 k3, .int .i64 s.Lease.Holder, .int .i64 s.Lease.Epoch, .int .i64 s.Lease.Until] 46) := ⟨_, rfl⟩
  have hEP : Ext w WP := by rw [hWP]; exact (Ext.refl _).alloc _
  have hsP : WP.heap.size = w.heap.size + 1 := by rw [hWP]; simp
  have KP : Blk WP w.heap.size 46 #[.int .i64 s.Index, .int .i64 s.Time, .slice a2 n2 k2, .slice a3 n3 k3, .int .i64 s.Lease.Holder, .int .i64 s.Lease.Epoch, .int .i64 s.Lease.Until] := by rw [hWP]; exact Blk.new _ _ _
  obtain ⟨W0, hW0⟩ : ∃ W0, W0 = WP.alloc (.cells #[.int .i64 0, .int .i64 0, .slice none 0 0, .slice none 0 0, .int .i64 0, .int .i64 0, .int .i64 0] 46) := ⟨_, rfl⟩
  have hE0 : Ext WP W0 := by rw [hW0]; exact (Ext.refl _).alloc _
  have hs0 : W0.heap.size = w.heap.size + 1 + 1 := by rw [hW0]; simp [hsP]
  have KR : Blk W0 (w.heap.size + 1) 46 #[.int .i64 0, .int .i64 0, .slice none 0 0, .slice none 0 0, .int .i64 0, .int .i64 0, .int .i64 0] := by rw [hW0, ← hsP]; exact Blk.new _ _ _
  have CP0 := (KP.ext hE0).cell; have FP0 := (KP.ext hE0).frozen
  have CR0 := KR.cell; have FR0 := KR.frozen
  have H0 := Lib.hid hW0; have HP := Lib.hid hWP
  clear hW0 hWP
  go_enter Tryz.func83, Tryz.ntmps83
  go_wp2_with fail
  rw [← HP.out, ← H0.out]
  refine (l14Copy_c _ _ s.Pairs (h2.ext (hEP.trans hE0)) e4).mono ?_
  rintro e wa ⟨_, rfl, hxa, ga⟩
  obtain ⟨b2, m2, j2, rfl⟩ := ga.shape
  have KPa := (KP.ext hE0).ext hxa; have KRa := KR.ext hxa
  have CPa := KPa.cell; have FPa := KPa.frozen; have CRa := KRa.cell; have FRa := KRa.frozen
  have hEa : Ext w wa := (hEP.trans hE0).trans hxa
  have hza := hxa.size
  go_wp2_with fail
  refine (l15Copy_c _ _ s.Jobs (h3.ext (Ext.setCell hEa (Nat.le_refl _) _)) e5).mono ?_
  rintro e wb ⟨_, rfl, hxb, gb⟩
  obtain ⟨b3, m3, j3, rfl⟩ := gb.shape
  have KPb := (KPa.set_ 2 (.slice b2 m2 j2)).ext hxb
  (try simp only [List.setIfInBounds_toArray, List.set_cons_zero, List.set_cons_succ] at KPb)
  have KRb := (KRa.far (p := ⟨w.heap.size, 2, none⟩) (by simp) (.slice b2 m2 j2)).ext hxb
  have CPb := KPb.cell; have FPb := KPb.frozen; have CRb := KRb.cell; have FRb := KRb.frozen
  clear CPa FPa CRa FRa CP0 FP0 CR0 FR0
  go_wp2_with fail
  refine bodyPost_ret (by simp [results, Tryz.results83, go_sem, *]; try rfl) rfl ?_
  simp only [World.size_setCell] at gb
  have hEb := Lib.hid ((Ext.setCell hEa (Nat.le_refl _) _).trans hxb)
  clear CPb FPb CRb FRb
  refine ⟨_, rfl, by have hEc := hEb.out; clear hxb; repeat' (first | (with_reducible exact Ext.refl _) | (with_reducible assumption) | (with_reducible refine Ext.drewN ?_ _) | (with_reducible refine Ext.drew ?_) | (with_reducible refine Ext.alloc ?_ _) | (with_reducible refine Ext.setCell ?_ ?_ _) | (with_reducible refine Ext.setRow ?_ ?_ _) | (with_reducible exact Nat.le_refl _) | (with_reducible refine Ext.trans ?_ (by assumption)) | omega), _, _, rfl, OwnI.mono (B := W0.heap.size) (OwnI.keep ga (by repeat' (first | (with_reducible exact Chg.refl _ _) | (with_reducible refine Chg.drewN ?_ _) | (with_reducible refine Chg.drew ?_) | (with_reducible refine Chg.alloc ?_ _) | (with_reducible refine Chg.setLow ?_ (by omega) _) | (with_reducible refine Chg.setNew ?_ (by omega) _) | (with_reducible refine Chg.setRow ?_ (by omega) _) | (with_reducible refine Chg.ext ?_ (by assumption)) | omega))) (by omega), OwnI.mono (B := W0.heap.size) (OwnI.keep (OwnI.mono gb hza) (by repeat' (first | (with_reducible exact Chg.refl _ _) | (with_reducible refine Chg.drewN ?_ _) | (with_reducible refine Chg.drew ?_) | (with_reducible refine Chg.alloc ?_ _) | (with_reducible refine Chg.setLow ?_ (by omega) _) | (with_reducible refine Chg.setNew ?_ (by omega) _) | (with_reducible refine Chg.setRow ?_ (by omega) _) | (with_reducible refine Chg.ext ?_ (by assumption)) | omega))) (by omega)⟩

end Go.Proofs.YtemfcogdjmjplaaGreat

-- Checksums of rows.
set_option linter.unusedSimpArgs false
set_option linter.unusedVariables false
namespace Go.Proofs.YtemfcogdjmjplaaGreat
open Go.RowKit Go.G8

end Go.Proofs.YtemfcogdjmjplaaGreat
namespace Go.G8
open Go.RowKit
end Go.G8
namespace Go.Proofs.YtemfcogdjmjplaaGreat
open Go.RowKit Go.G8
end Go.Proofs.YtemfcogdjmjplaaGreat

-- Numbers written by a cursor.
set_option linter.unusedSimpArgs false
set_option linter.unusedVariables false
namespace Go.Proofs.YtemfcogdjmjplaaGreat
open Go.RowKit Go.G8

end Go.Proofs.YtemfcogdjmjplaaGreat
namespace Go.G8
open Go.RowKit
end Go.G8
namespace Go.Proofs.YtemfcogdjmjplaaGreat
open Go.RowKit Go.G8
theorem stateOk_lens {s : DState} (h : stateOk s = true) : s.Pairs.length ≤ 10 ∧ s.Jobs.length ≤ 8 := by
  simp only [stateOk, Bool.and_eq_true] at h
  obtain ⟨_, _, hp, hj, _⟩ := h
  exact ⟨PairsOk.len (pairsOk_iff.1 hp), (jobsOk_iff.1 hj).1⟩

end Go.Proofs.YtemfcogdjmjplaaGreat

-- The reference's rows of pairs, jobs and states.
set_option linter.unusedSimpArgs false
set_option linter.unusedVariables false
namespace Go.Proofs.YtemfcogdjmjplaaGreat
open Go.RowKit Go.G8

end Go.Proofs.YtemfcogdjmjplaaGreat
namespace Go.G8
open Go.RowKit
end Go.G8
namespace Go.Proofs.YtemfcogdjmjplaaGreat
open Go.RowKit Go.G8
end Go.Proofs.YtemfcogdjmjplaaGreat
