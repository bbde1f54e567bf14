/- Contracts and plain laws: Q11 Q12. -/
import Derived.Test.YtemfcogdjmjplaaGreatGl
import Derived.Test.YtemfcogdjmjplaaGreatGf
-- Copies of stores.
set_option linter.unusedSimpArgs false
set_option linter.unusedVariables false
namespace Go.Proofs.YtemfcogdjmjplaaGreat
open Go.RowKit Go.G8

theorem store_of {B : Nat} {w : World} {a b c e : Value} {d : DDisk} {st : DState} (hd : IsDisk B w (.agg #[a, b]) d) (hc : OwnI B 114 2 w c (flPair st.Pairs)) (he : OwnI B 138 5 w e (flJob st.Jobs)) (n l y : Int) :
    ∃ F, OwStore B w (.agg #[a, b, .int .i64 st.Index, .int .i64 st.Time, c, e, .int .i64 st.Lease.Holder, .int .i64 st.Lease.Epoch, .int .i64 st.Lease.Until, .int .i64 n, .int .i64 l, .int .i64 y]) ⟨d, st, n, l, y⟩ F := by
  obtain ⟨t0, t1, ss0, ss1, e, h0, h1, hd⟩ := hd
  injection e with e; injection e with e; injection e with e1 e; injection e with e2 _
  subst e1; subst e2
  exact ⟨_, _, _, _, _, ss0, ss1, rfl, h0, h1, hc, he, hd, rfl⟩
set_option maxHeartbeats 8000000 in
set_option maxRecDepth 100000 in
theorem copyStore_k {w : World} {v : Value} {s : DStore} (h : RdStore w v s) (e0 : diskSmall s.Disk) (e1 : stateSmall s.State) : Calls Tryz.prog 41 #[v] w (Ret w fun r w' => ∃ F, OwStore w.heap.size w' r s F) := by
  have H := h
  obtain ⟨t0, t1, t4, t5, rfl, h0, h1, h4, h5⟩ := h
  obtain ⟨a0, n0, k0, rfl⟩ := h0.shape
  obtain ⟨a1, n1, k1, rfl⟩ := h1.shape
  obtain ⟨a4, n4, k4, rfl⟩ := h4.shape
  obtain ⟨a5, n5, k5, rfl⟩ := h5.shape
  have hst : RdState w (.agg #[.int .i64 s.State.Index, .int .i64 s.State.Time, .slice a4 n4 k4, .slice a5 n5 k5, .int .i64 s.State.Lease.Holder, .int .i64 s.State.Lease.Epoch, .int .i64 s.State.Lease.Until]) s.State := ⟨_, _, rfl, h4, h5⟩
  obtain ⟨WP, hWP⟩ : ∃ WP, WP = w.alloc (.cells #[.slice a0 n0 k0, .slice a1 n1 k1, .int .i64 s.State.Index, .int .i64 s.State.Time, .slice a4 n4 k4, .slice a5 n5 k5, .int .i64 s.State.Lease.Holder, .int .i64 s.State.Lease.Epoch, .int .i64 s.State.Lease.Until, .int .i64 s.Num, .int .i64 s.Last, .int .i64 s.Busy] 48) := ⟨_, rfl⟩
  have hEP : Ext w WP := by rw [hWP]; exact (Ext.refl _).alloc _
  have hsP : WP.heap.size = w.heap.size + 1 := by rw [hWP]; simp
  have KP : Blk WP w.heap.size 48 #[.slice a0 n0 k0, .slice a1 n1 k1, .int .i64 s.State.Index, .int .i64 s.State.Time, .slice a4 n4 k4, .slice a5 n5 k5, .int .i64 s.State.Lease.Holder, .int .i64 s.State.Lease.Epoch, .int .i64 s.State.Lease.Until, .int .i64 s.Num, .int .i64 s.Last, .int .i64 s.Busy] := by rw [hWP]; exact Blk.new _ _ _
  obtain ⟨W0, hW0⟩ : ∃ W0, W0 = WP.alloc (.cells #[.slice none 0 0, .slice none 0 0, .int .i64 0, .int .i64 0, .slice none 0 0, .slice none 0 0, .int .i64 0, .int .i64 0, .int .i64 0, .int .i64 0, .int .i64 0, .int .i64 0] 48) := ⟨_, rfl⟩
  have hE0 : Ext WP W0 := by rw [hW0]; exact (Ext.refl _).alloc _
  have hs0 : W0.heap.size = w.heap.size + 1 + 1 := by rw [hW0]; simp [hsP]
  have KR : Blk W0 (w.heap.size + 1) 48 #[.slice none 0 0, .slice none 0 0, .int .i64 0, .int .i64 0, .slice none 0 0, .slice none 0 0, .int .i64 0, .int .i64 0, .int .i64 0, .int .i64 0, .int .i64 0, .int .i64 0] := by rw [hW0, ← hsP]; exact Blk.new _ _ _
  have CP0 := (KP.ext hE0).cell; have FP0 := (KP.ext hE0).frozen
  have CR0 := KR.cell; have FR0 := KR.frozen
  have H0 := Lib.hid hW0; have HP := Lib.hid hWP
  clear hW0 hWP
  go_enter Tryz.func41, Tryz.ntmps41
  go_wp2_with fail
  rw [← HP.out, ← H0.out]
  go_region_held3 (fun w' => w'.cell? ⟨w.heap.size, 0, none⟩ = some (.slice a0 n0 k0) ∧ w'.cell? ⟨w.heap.size, 1, none⟩ = some (.slice a1 n1 k1) ∧ w'.cell? ⟨w.heap.size, 2, none⟩ = some (.int .i64 s.State.Index) ∧ w'.cell? ⟨w.heap.size, 3, none⟩ = some (.int .i64 s.State.Time) ∧ w'.cell? ⟨w.heap.size, 4, none⟩ = some (.slice a4 n4 k4) ∧ w'.cell? ⟨w.heap.size, 5, none⟩ = some (.slice a5 n5 k5) ∧ w'.cell? ⟨w.heap.size, 6, none⟩ = some (.int .i64 s.State.Lease.Holder) ∧ w'.cell? ⟨w.heap.size, 7, none⟩ = some (.int .i64 s.State.Lease.Epoch) ∧ w'.cell? ⟨w.heap.size, 8, none⟩ = some (.int .i64 s.State.Lease.Until) ∧ w'.cell? ⟨w.heap.size, 9, none⟩ = some (.int .i64 s.Num) ∧ w'.cell? ⟨w.heap.size, 10, none⟩ = some (.int .i64 s.Last) ∧ w'.cell? ⟨w.heap.size, 11, none⟩ = some (.int .i64 s.Busy)) (first | (refine ⟨((KP.ext ?_).cell 0).trans (by simp), ((KP.ext ?_).cell 1).trans (by simp), ((KP.ext ?_).cell 2).trans (by simp), ((KP.ext ?_).cell 3).trans (by simp), ((KP.ext ?_).cell 4).trans (by simp), ((KP.ext ?_).cell 5).trans (by simp), ((KP.ext ?_).cell 6).trans (by simp), ((KP.ext ?_).cell 7).trans (by simp), ((KP.ext ?_).cell 8).trans (by simp), ((KP.ext ?_).cell 9).trans (by simp), ((KP.ext ?_).cell 10).trans (by simp), ((KP.ext ?_).cell 11).trans (by simp)⟩ <;> (repeat' (first | (with_reducible exact Ext.refl _) | (with_reducible assumption) | (with_reducible refine Ext.drewN ?_ _) | (with_reducible refine Ext.drew ?_) | (with_reducible refine Ext.alloc ?_ _) | (with_reducible refine Ext.setCell ?_ ?_ _) | (with_reducible refine Ext.setRow ?_ ?_ _) | (with_reducible exact Nat.le_refl _) | (with_reducible refine Ext.trans ?_ (by assumption)) | omega)); done)) (first | (go_at_call 99; refine (copyDisk_c _ _ s.Disk.Kept _ s.Disk.Wait ((h0.ext hEP).ext (by repeat' (first | (with_reducible exact Ext.refl _) | (with_reducible assumption) | (with_reducible refine Ext.drewN ?_ _) | (with_reducible refine Ext.drew ?_) | (with_reducible refine Ext.alloc ?_ _) | (with_reducible refine Ext.setCell ?_ ?_ _) | (with_reducible refine Ext.setRow ?_ ?_ _) | (with_reducible exact Nat.le_refl _) | (with_reducible refine Ext.trans ?_ (by assumption)) | omega))) ((h1.ext hEP).ext (by repeat' (first | (with_reducible exact Ext.refl _) | (with_reducible assumption) | (with_reducible refine Ext.drewN ?_ _) | (with_reducible refine Ext.drew ?_) | (with_reducible refine Ext.alloc ?_ _) | (with_reducible refine Ext.setCell ?_ ?_ _) | (with_reducible refine Ext.setRow ?_ ?_ _) | (with_reducible exact Nat.le_refl _) | (with_reducible refine Ext.trans ?_ (by assumption)) | omega))) e0).mono ?_; rintro e wa ⟨_, rfl, hxwa, ga⟩; obtain ⟨b0, m0, j0, b1, m1, j1, rfl⟩ := ga.shape; have hzwa := hxwa.size; (try simp only [World.size_setCell, size_drew] at hzwa); have KRwa : Blk wa (w.heap.size + 1) _ _ := KR.ext (by repeat' (first | (with_reducible exact Ext.refl _) | (with_reducible assumption) | (with_reducible refine Ext.drewN ?_ _) | (with_reducible refine Ext.drew ?_) | (with_reducible refine Ext.alloc ?_ _) | (with_reducible refine Ext.setCell ?_ ?_ _) | (with_reducible refine Ext.setRow ?_ ?_ _) | (with_reducible exact Nat.le_refl _) | (with_reducible refine Ext.trans ?_ (by assumption)) | omega)); have CRwa := KRwa.cell; have FRwa := KRwa.frozen) | (go_at_call 100; refine (copyState_k ((hst.ext hEP).ext (by repeat' (first | (with_reducible exact Ext.refl _) | (with_reducible assumption) | (with_reducible refine Ext.drewN ?_ _) | (with_reducible refine Ext.drew ?_) | (with_reducible refine Ext.alloc ?_ _) | (with_reducible refine Ext.setCell ?_ ?_ _) | (with_reducible refine Ext.setRow ?_ ?_ _) | (with_reducible exact Nat.le_refl _) | (with_reducible refine Ext.trans ?_ (by assumption)) | omega))) e1).mono ?_; rintro e wb ⟨_, rfl, hxwb, gb⟩; obtain ⟨u4, u5, rfl, g4, g5⟩ := gb; obtain ⟨b4, m4, j4, rfl⟩ := g4.shape; obtain ⟨b5, m5, j5, rfl⟩ := g5.shape; have hzwb := hxwb.size; (try simp only [World.size_setCell, size_drew] at hzwb); have KRwb : Blk wb (w.heap.size + 1) _ _ := KR.ext (by repeat' (first | (with_reducible exact Ext.refl _) | (with_reducible assumption) | (with_reducible refine Ext.drewN ?_ _) | (with_reducible refine Ext.drew ?_) | (with_reducible refine Ext.alloc ?_ _) | (with_reducible refine Ext.setCell ?_ ?_ _) | (with_reducible refine Ext.setRow ?_ ?_ _) | (with_reducible exact Nat.le_refl _) | (with_reducible refine Ext.trans ?_ (by assumption)) | omega)); have CRwb := KRwb.cell; have FRwb := KRwb.frozen))
  all_goals
    go_wp2_with fail
    refine bodyPost_ret (by simp [results, Tryz.results41, go_sem, *]; try rfl) rfl ?_
    have hq : w.heap.size + 1 < wa.heap.size := by have : W0.heap.size ≤ wa.heap.size := hzwa; omega
    have hr : w.heap.size + 1 < W0.heap.size := by omega
    refine ⟨_, rfl, ?_, store_of (IsDisk.mono (B := W0.heap.size) (IsDisk.keep (IsDisk.ext ga hxwb) (by repeat' (first | (with_reducible exact Chg.refl _ _) | (with_reducible refine Chg.drewN ?_ _) | (with_reducible refine Chg.drew ?_) | (with_reducible refine Chg.alloc ?_ _) | (with_reducible refine Chg.setLow ?_ (by omega) _) | (with_reducible refine Chg.setNew ?_ (by omega) _) | (with_reducible refine Chg.setRow ?_ (by omega) _) | (with_reducible refine Chg.ext ?_ (by assumption)) | omega))) (by omega)) (OwnI.mono (B := W0.heap.size) (OwnI.keep (OwnI.mono g4 hzwa) (by repeat' (first | (with_reducible exact Chg.refl _ _) | (with_reducible refine Chg.drewN ?_ _) | (with_reducible refine Chg.drew ?_) | (with_reducible refine Chg.alloc ?_ _) | (with_reducible refine Chg.setLow ?_ (by omega) _) | (with_reducible refine Chg.setNew ?_ (by omega) _) | (with_reducible refine Chg.setRow ?_ (by omega) _) | (with_reducible refine Chg.ext ?_ (by assumption)) | omega))) (by omega)) (OwnI.mono (B := W0.heap.size) (OwnI.keep (OwnI.mono g5 hzwa) (by repeat' (first | (with_reducible exact Chg.refl _ _) | (with_reducible refine Chg.drewN ?_ _) | (with_reducible refine Chg.drew ?_) | (with_reducible refine Chg.alloc ?_ _) | (with_reducible refine Chg.setLow ?_ (by omega) _) | (with_reducible refine Chg.setNew ?_ (by omega) _) | (with_reducible refine Chg.setRow ?_ (by omega) _) | (with_reducible refine Chg.ext ?_ (by assumption)) | omega))) (by omega)) _ _ _⟩
    exact Ext.trans hEP (by repeat' (first | (with_reducible exact Ext.refl _) | (with_reducible assumption) | (with_reducible refine Ext.drewN ?_ _) | (with_reducible refine Ext.drew ?_) | (with_reducible refine Ext.alloc ?_ _) | (with_reducible refine Ext.setCell ?_ ?_ _) | (with_reducible refine Ext.setRow ?_ ?_ _) | (with_reducible exact Nat.le_refl _) | (with_reducible refine Ext.trans ?_ (by assumption)) | omega))
set_option maxHeartbeats 8000000 in
set_option maxRecDepth 100000 in
theorem l19Copy_k {w : World} {v : Value} {s : DStore} (h : RdStore w v s) (e0 : diskSmall s.Disk) (e1 : stateSmall s.State) : Calls Tryz.prog 35 #[v] w (Ret w fun r w' => ∃ F, OwStore w.heap.size w' r s F) := by
  have H := h
  obtain ⟨t0, t1, t4, t5, rfl, h0, h1, h4, h5⟩ := h
  obtain ⟨a0, n0, k0, rfl⟩ := h0.shape
  obtain ⟨a1, n1, k1, rfl⟩ := h1.shape
  obtain ⟨a4, n4, k4, rfl⟩ := h4.shape
  obtain ⟨a5, n5, k5, rfl⟩ := h5.shape
  have hst : RdState w (.agg #[.int .i64 s.State.Index, .int .i64 s.State.Time, .slice a4 n4 k4, .slice a5 n5 k5, .int .i64 s.State.Lease.Holder, .int .i64 s.State.Lease.Epoch, .int .i64 s.State.Lease.Until]) s.State := ⟨_, _, rfl, h4, h5⟩
  obtain ⟨WP, hWP⟩ : ∃ WP, WP = w.alloc (.cells #[.slice a0 n0 k0, .slice a1 n1 k1, .int .i64 s.State.Index, .int .i64 s.State.Time, .slice a4 n4 k4, .slice a5 n5 k5, .int .i64 s.State.Lease.Holder, .int .i64 s.State.Lease.Epoch, .int .i64 s.State.Lease.Until, .int .i64 s.Num, .int .i64 s.Last, .int .i64 s.Busy] 48) := ⟨_, rfl⟩
  have hEP : Ext w WP := by rw [hWP]; exact (Ext.refl _).alloc _
  have hsP : WP.heap.size = w.heap.size + 1 := by rw [hWP]; simp
  have KP : Blk WP w.heap.size 48 #[.slice a0 n0 k0, .slice a1 n1 k1, .int .i64 s.State.Index, .int .i64 s.State.Time, .slice a4 n4 k4, .slice a5 n5 k5, .int .i64 s.State.Lease.Holder, .int .i64 s.State.Lease.Epoch, .int .i64 s.State.Lease.Until, .int .i64 s.Num, .int .i64 s.Last, .int .i64 s.Busy] := by rw [hWP]; exact Blk.new _ _ _
  obtain ⟨W0, hW0⟩ : ∃ W0, W0 = WP.alloc (.cells #[.slice none 0 0, .slice none 0 0, .int .i64 0, .int .i64 0, .slice none 0 0, .slice none 0 0, .int .i64 0, .int .i64 0, .int .i64 0, .int .i64 0, .int .i64 0, .int .i64 0] 48) := ⟨_, rfl⟩
  have hE0 : Ext WP W0 := by rw [hW0]; exact (Ext.refl _).alloc _
  have hs0 : W0.heap.size = w.heap.size + 1 + 1 := by rw [hW0]; simp [hsP]
  have KR : Blk W0 (w.heap.size + 1) 48 #[.slice none 0 0, .slice none 0 0, .int .i64 0, .int .i64 0, .slice none 0 0, .slice none 0 0, .int .i64 0, .int .i64 0, .int .i64 0, .int .i64 0, .int .i64 0, .int .i64 0] := by rw [hW0, ← hsP]; exact Blk.new _ _ _
  have CP0 := (KP.ext hE0).cell; have FP0 := (KP.ext hE0).frozen
  have CR0 := KR.cell; have FR0 := KR.frozen
  have H0 := Lib.hid hW0; have HP := Lib.hid hWP
  clear hW0 hWP
  go_enter Tryz.func35, Tryz.ntmps35
  go_wp2_with fail
  rw [← HP.out, ← H0.out]
  refine (l3Copy_c _ _ s.Disk.Kept _ s.Disk.Wait (h0.ext (hEP.trans hE0)) (h1.ext (hEP.trans hE0)) e0).mono ?_
  rintro e wa ⟨_, rfl, hxa, ga⟩
  obtain ⟨b0, m0, j0, b1, m1, j1, rfl⟩ := ga.shape
  have KPa := (KP.ext hE0).ext hxa; have KRa := KR.ext hxa
  have CPa := KPa.cell; have FPa := KPa.frozen; have CRa := KRa.cell; have FRa := KRa.frozen
  have hEa : Ext w wa := (hEP.trans hE0).trans hxa
  have hza := hxa.size
  go_wp2_with fail
  refine (l17Copy_k (hst.ext (Ext.setCell (Ext.setCell hEa (Nat.le_refl _) _) (Nat.le_refl _) _)) e1).mono ?_
  rintro e wb ⟨_, rfl, hxb, gb⟩
  obtain ⟨u4, u5, rfl, g4, g5⟩ := gb
  obtain ⟨b4, m4, j4, rfl⟩ := g4.shape
  obtain ⟨b5, m5, j5, rfl⟩ := g5.shape
  have KPb := ((KPa.set_ 0 (.slice b0 m0 j0)).set_ 1 (.slice b1 m1 j1)).ext hxb
  (try simp only [List.setIfInBounds_toArray, List.set_cons_zero, List.set_cons_succ] at KPb)
  have KRb := ((KRa.far (p := ⟨w.heap.size, 0, none⟩) (by simp) (.slice b0 m0 j0)).far (p := ⟨w.heap.size, 1, none⟩) (by simp) (.slice b1 m1 j1)).ext hxb
  have CPb := KPb.cell; have FPb := KPb.frozen; have CRb := KRb.cell; have FRb := KRb.frozen
  clear CPa FPa CRa FRa CP0 FP0 CR0 FR0
  go_wp2_with fail
  refine bodyPost_ret (by simp [results, Tryz.results35, go_sem, *]; try rfl) rfl ?_
  simp only [World.size_setCell] at g4 g5
  have hEb := Lib.hid ((Ext.setCell (Ext.setCell hEa (Nat.le_refl _) _) (Nat.le_refl _) _).trans hxb)
  clear CPb FPb CRb FRb
  refine ⟨_, rfl, by have hEc := hEb.out; clear hxb; repeat' (first | (with_reducible exact Ext.refl _) | (with_reducible assumption) | (with_reducible refine Ext.drewN ?_ _) | (with_reducible refine Ext.drew ?_) | (with_reducible refine Ext.alloc ?_ _) | (with_reducible refine Ext.setCell ?_ ?_ _) | (with_reducible refine Ext.setRow ?_ ?_ _) | (with_reducible exact Nat.le_refl _) | (with_reducible refine Ext.trans ?_ (by assumption)) | omega), store_of (IsDisk.mono (B := W0.heap.size) (IsDisk.keep ga (by repeat' (first | (with_reducible exact Chg.refl _ _) | (with_reducible refine Chg.drewN ?_ _) | (with_reducible refine Chg.drew ?_) | (with_reducible refine Chg.alloc ?_ _) | (with_reducible refine Chg.setLow ?_ (by omega) _) | (with_reducible refine Chg.setNew ?_ (by omega) _) | (with_reducible refine Chg.setRow ?_ (by omega) _) | (with_reducible refine Chg.ext ?_ (by assumption)) | omega))) (by omega)) (OwnI.mono (B := W0.heap.size) (OwnI.keep (OwnI.mono g4 hza) (by repeat' (first | (with_reducible exact Chg.refl _ _) | (with_reducible refine Chg.drewN ?_ _) | (with_reducible refine Chg.drew ?_) | (with_reducible refine Chg.alloc ?_ _) | (with_reducible refine Chg.setLow ?_ (by omega) _) | (with_reducible refine Chg.setNew ?_ (by omega) _) | (with_reducible refine Chg.setRow ?_ (by omega) _) | (with_reducible refine Chg.ext ?_ (by assumption)) | omega))) (by omega)) (OwnI.mono (B := W0.heap.size) (OwnI.keep (OwnI.mono g5 hza) (by repeat' (first | (with_reducible exact Chg.refl _ _) | (with_reducible refine Chg.drewN ?_ _) | (with_reducible refine Chg.drew ?_) | (with_reducible refine Chg.alloc ?_ _) | (with_reducible refine Chg.setLow ?_ (by omega) _) | (with_reducible refine Chg.setNew ?_ (by omega) _) | (with_reducible refine Chg.setRow ?_ (by omega) _) | (with_reducible refine Chg.ext ?_ (by assumption)) | omega))) (by omega)) _ _ _⟩

end Go.Proofs.YtemfcogdjmjplaaGreat

-- Snapshots that are synced.
set_option linter.unusedSimpArgs false
set_option linter.unusedVariables false
namespace Go.Proofs.YtemfcogdjmjplaaGreat
open Go.RowKit Go.G8

end Go.Proofs.YtemfcogdjmjplaaGreat
namespace Go.G8
open Go.RowKit
theorem stateOk_small {s : DState} (h : stateOk s = true) : stateSmall s := by
  simp only [stateOk, Bool.and_eq_true] at h
  obtain ⟨_, _, hp, hj, _⟩ := h
  have hp := pairsOk_iff.1 hp
  have hj := jobsOk_iff.1 hj
  refine ⟨?_, ?_⟩
  · rcases Nat.lt_or_ge 10 s.Pairs.length with h | h
    · have h1 : s.Pairs[10]? = some s.Pairs[10] := List.getElem?_eq_getElem h
      have h2 := PairsOk.key hp 10 _ h1
      have h3 := (hp 10 h _ h1).1
      simp only [pairOk, Bool.and_eq_true, inb_true] at h3
      omega
    · omega
  · have := hj.1
    omega
end Go.G8
namespace Go.Proofs.YtemfcogdjmjplaaGreat
open Go.RowKit Go.G8
theorem OwnI.low {B : Nat} {e : TypeId} {n : Nat} {w : World} {v : Value} {xs : List Int} {k i : Nat} (h : OwnI B e n w v xs) (hk : k < B) (u : Value) : OwnI B e n (w.setCell ⟨k, i, none⟩ u) v xs := OwnI.keep h ((Chg.refl B w).setLow hk u)
theorem nState (s : DStore) (h : storeOk s = true) : s.State.Pairs.length ≤ 1000000 ∧ s.State.Jobs.length ≤ 1000000 := stateOk_small (storeOk_state h)
end Go.Proofs.YtemfcogdjmjplaaGreat
