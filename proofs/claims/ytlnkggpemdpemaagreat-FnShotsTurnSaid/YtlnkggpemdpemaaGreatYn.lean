/- Contracts and plain laws: Q11 Q12. -/
import Derived.Test.YtlnkggpemdpemaaGreatYa
import Derived.Test.YtlnkggpemdpemaaGreatYl
import Derived.Test.YtlnkggpemdpemaaGreatYf
set_option linter.unusedSimpArgs false
set_option linter.unusedVariables false
set_option maxHeartbeats 8000000
set_option maxRecDepth 100000
namespace Go.Proofs.YtlnkggpemdpemaaGreat
open Go.RowKit Go.G8
theorem store_of {B : Nat} {w : World} {a b c e : Value} {d : DDisk} {st : DState} (hd : IsDisk B w (.agg #[a, b]) d) (hc : OwnI B 113 2 w c (flPair st.Pairs)) (he : OwnI B 95 5 w e (flJob st.Jobs)) (n l y : Int) :
  ∃ F, OwStore B w (.agg #[a, b, .int .i64 st.Index, .int .i64 st.Time, c, e, .int .i64 st.Lease.Holder, .int .i64 st.Lease.Epoch, .int .i64 st.Lease.Until, .int .i64 n, .int .i64 l, .int .i64 y]) ⟨d, st, n, l, y⟩ F := by
 obtain ⟨t0, t1, ss0, ss1, e, h0, h1, hd⟩ := hd
 injection e with e; injection e with e; injection e with e1 e; injection e with e2 _
 subst e1; subst e2
 exact ⟨_, _, _, _, _, ss0, ss1, rfl, h0, h1, hc, he, hd, rfl⟩
theorem copyStore_k {w : World} {v : Value} {s : DStore} (h : RdStore w v s) (e0 : diskSmall s.Disk) (e1 : stateSmall s.State) : Calls Tryz.prog 49 #[v] w (Ret w fun r w' => ∃ F, OwStore w.heap.size w' r s F) := by
 have H := h
 obtain ⟨t0, t1, t4, t5, rfl, h0, h1, h4, h5⟩ := h
 obtain ⟨a0, n0, k0, rfl⟩ := h0.shape
 obtain ⟨a1, n1, k1, rfl⟩ := h1.shape
 obtain ⟨a4, n4, k4, rfl⟩ := h4.shape
 obtain ⟨a5, n5, k5, rfl⟩ := h5.shape
 have hst : RdState w (.agg #[.int .i64 s.State.Index, .int .i64 s.State.Time, .slice a4 n4 k4, .slice a5 n5 k5, .int .i64 s.State.Lease.Holder, .int .i64 s.State.Lease.Epoch, .int .i64 s.State.Lease.Until]) s.State := ⟨_, _, rfl, h4, h5⟩
 obtain ⟨WP, hWP⟩ : ∃ WP, WP = w.alloc (.cells #[.slice a0 n0 k0, .slice a1 n1 k1, .int .i64 s.State.Index, .int .i64 s.State.Time, .slice a4 n4 k4, .slice a5 n5 k5, .int .i64 s.State.Lease.Holder, .int .i64 s.State.Lease.Epoch, .int .i64 s.State.Lease.Until, .int .i64 s.Num, .int .i64 s.Last, .int .i64 s.Busy] 41) := ⟨_, rfl⟩
 have hEP : Ext w WP := by rw [hWP]; exact (Ext.refl _).alloc _
 have hsP : WP.heap.size = w.heap.size + 1 := by rw [hWP]; simp
 have KP : Blk WP w.heap.size 41 #[.slice a0 n0 k0, .slice a1 n1 k1, .int .i64 s.State.Index, .int .i64 s.State.Time, .slice a4 n4 k4, .slice a5 n5 k5, .int .i64 s.State.Lease.Holder, .int .i64 s.State.Lease.Epoch, .int .i64 s.State.Lease.Until, .int .i64 s.Num, .int .i64 s.Last, .int .i64 s.Busy] := by rw [hWP]; exact Blk.new _ _ _
 obtain ⟨W0, hW0⟩ : ∃ W0, W0 = WP.alloc (.cells #[.slice none 0 0, .slice none 0 0, .int .i64 0, .int .i64 0, .slice none 0 0, .slice none 0 0, .int .i64 0, .int .i64 0, .int .i64 0, .int .i64 0, .int .i64 0, .int .i64 0] 41) := ⟨_, rfl⟩
 have hE0 : Ext WP W0 := by rw [hW0]; exact (Ext.refl _).alloc _
 have hs0 : W0.heap.size = w.heap.size + 1 + 1 := by rw [hW0]; simp [hsP]
 have KR : Blk W0 (w.heap.size + 1) 41 #[.slice none 0 0, .slice none 0 0, .int .i64 0, .int .i64 0, .slice none 0 0, .slice none 0 0, .int .i64 0, .int .i64 0, .int .i64 0, .int .i64 0, .int .i64 0, .int .i64 0] := by rw [hW0, ← hsP]; exact Blk.new _ _ _
 have CP0 := (KP.ext hE0).cell; have FP0 := (KP.ext hE0).frozen
 have CR0 := KR.cell; have FR0 := KR.frozen
 have H0 := Lib.hid hW0; have HP := Lib.hid hWP
 clear hW0 hWP
 go_enter Tryz.func49, Tryz.ntmps49
 go_wp2_with fail
 rw [← HP.out, ← H0.out]
 go_region_held3 (fun w' => w'.cell? ⟨w.heap.size, 0, none⟩ = some (.slice a0 n0 k0) ∧ w'.cell? ⟨w.heap.size, 1, none⟩ = some (.slice a1 n1 k1) ∧ w'.cell? ⟨w.heap.size, 2, none⟩ = some (.int .i64 s.State.Index) ∧ w'.cell? ⟨w.heap.size, 3, none⟩ = some (.int .i64 s.State.Time) ∧ w'.cell? ⟨w.heap.size, 4, none⟩ = some (.slice a4 n4 k4) ∧ w'.cell? ⟨w.heap.size, 5, none⟩ = some (.slice a5 n5 k5) ∧ w'.cell? ⟨w.heap.size, 6, none⟩ = some (.int .i64 s.State.Lease.Holder) ∧ w'.cell? ⟨w.heap.size, 7, none⟩ = some (.int .i64 s.State.Lease.Epoch) ∧ w'.cell? ⟨w.heap.size, 8, none⟩ = some (.int .i64 s.State.Lease.Until) ∧ w'.cell? ⟨w.heap.size, 9, none⟩ = some (.int .i64 s.Num) ∧ w'.cell? ⟨w.heap.size, 10, none⟩ = some (.int .i64 s.Last) ∧ w'.cell? ⟨w.heap.size, 11, none⟩ = some (.int .i64 s.Busy)) (first | (refine ⟨((KP.ext ?_).cell 0).trans (by simp), ((KP.ext ?_).cell 1).trans (by simp), ((KP.ext ?_).cell 2).trans (by simp), ((KP.ext ?_).cell 3).trans (by simp), ((KP.ext ?_).cell 4).trans (by simp), ((KP.ext ?_).cell 5).trans (by simp), ((KP.ext ?_).cell 6).trans (by simp), ((KP.ext ?_).cell 7).trans (by simp), ((KP.ext ?_).cell 8).trans (by simp), ((KP.ext ?_).cell 9).trans (by simp), ((KP.ext ?_).cell 10).trans (by simp), ((KP.ext ?_).cell 11).trans (by simp)⟩ <;> (exact xT); done)) (first | (go_at_call 65; refine (copyDisk_c _ _ s.Disk.Kept _ s.Disk.Wait ((h0.ext hEP).ext xT) ((h1.ext hEP).ext xT) e0).mono ?_; rintro e wa ⟨_, rfl, hxwa, ga⟩; obtain ⟨b0, m0, j0, b1, m1, j1, rfl⟩ := ga.shape; have hzwa := hxwa.size; (try simp only [World.size_setCell, size_drew] at hzwa); have KRwa : Blk wa (w.heap.size + 1) _ _ := KR.ext xT; have CRwa := KRwa.cell; have FRwa := KRwa.frozen) | (go_at_call 80; refine (copyState_k ((hst.ext hEP).ext xT) e1).mono ?_; rintro e wb ⟨_, rfl, hxwb, gb⟩; obtain ⟨u4, u5, rfl, g4, g5⟩ := gb; obtain ⟨b4, m4, j4, rfl⟩ := g4.shape; obtain ⟨b5, m5, j5, rfl⟩ := g5.shape; have hzwb := hxwb.size; (try simp only [World.size_setCell, size_drew] at hzwb); have KRwb : Blk wb (w.heap.size + 1) _ _ := KR.ext xT; have CRwb := KRwb.cell; have FRwb := KRwb.frozen))
 all_goals
  go_wp2_with fail
  refine bodyPost_ret (by simp [results, Tryz.results49, go_sem, *]; try rfl) rfl ?_
  have hq : w.heap.size + 1 < wa.heap.size := by have : W0.heap.size ≤ wa.heap.size := hzwa; omega
  have hr : w.heap.size + 1 < W0.heap.size := by omega
  refine ⟨_, rfl, ?_, store_of (IsDisk.mono (B := W0.heap.size) (IsDisk.keep (IsDisk.ext ga hxwb) chgT) oM) (OwnI.mono (B := W0.heap.size) (OwnI.keep (OwnI.mono g4 hzwa) chgT) oM) (OwnI.mono (B := W0.heap.size) (OwnI.keep (OwnI.mono g5 hzwa) chgT) oM) _ _ _⟩
  exact Ext.trans hEP xT
end Go.Proofs.YtlnkggpemdpemaaGreat
namespace Go.G8
open Go.RowKit
theorem stateOk_small {s : DState} (h : stateOk s = true) : stateSmall s := by
 simp only [stateOk, Bool.and_eq_true] at h
 obtain ⟨_, _, hp, hj, _⟩ := h
 have hp := pairsOk_iff.1 hp
 have hj := jobsOk_iff.1 hj
 refine ⟨?_, ?_⟩
 ·
  rcases Nat.lt_or_ge 10 s.Pairs.length with h | h
  ·
   have h1 : s.Pairs[10]? = some s.Pairs[10] := List.getElem?_eq_getElem h
   have h2 := PairsOk.key hp 10 _ h1
   have h3 := (hp 10 h _ h1).1
   simp only [pairOk, Bool.and_eq_true, inb_true] at h3
   omega
  omega
 have := hj.1
 omega
noncomputable def ssStore (s : DStore) : DStore := if storeOk s then (if s.Busy = 0 then s else ⟨fallenDisk true [] s.Disk, s.State, s.Num + 1, s.Busy, 0⟩) else ⟨⟨[], []⟩, ⟨0, 0, [], [], ⟨0, 0, 0⟩⟩, 0, 0, 0⟩
theorem storeOk_num {s : DStore} (h : storeOk s = true) : 0 ≤ s.Num ∧ s.Num ≤ 1000000000 := by
 simp only [storeOk, Bool.and_eq_true] at h
 exact inb_true.1 h.2.2.1
end Go.G8
namespace Go.Proofs.YtlnkggpemdpemaaGreat
open Go.RowKit Go.G8
theorem OwnI.low {B : Nat} {e : TypeId} {n : Nat} {w : World} {v : Value} {xs : List Int} {k i : Nat} (h : OwnI B e n w v xs) (hk : k < B) (u : Value) : OwnI B e n (w.setCell ⟨k, i, none⟩ u) v xs := OwnI.keep h ((Chg.refl B w).setLow hk u)
theorem OwnI.drewd {B : Nat} {e : TypeId} {n : Nat} {w : World} {v : Value} {xs : List Int} (h : OwnI B e n w v xs) : OwnI B e n w.drew v xs := OwnI.keep h ((Chg.refl B w).drew)
theorem OwnI.boxed {B : Nat} {e t : TypeId} {n : Nat} {w : World} {v : Value} {xs : List Int} {X i : Nat} {a : Array Value} (h : OwnI B e n w v xs) (hX : Blk w X t a) (ht : t ≠ e) (u : Value) : OwnI B e n (w.setCell ⟨X, i, none⟩ u) v xs :=
 OwnI.upd' h (fs := [X]) ((Upd.refl _ _).setCell (by simp) _) (fun k hk hk' => by
  simp at hk'
  obtain ⟨cur, hb⟩ := h.typed hk
  rw [hk'] at hb
  exact ht (hX.same hb))
theorem shotSynced_k {w : World} {v : Value} {s : DStore} (h : RdStore w v s) : Calls Tryz.prog 23 #[v] w (Ret w fun r w' => ∃ u : Value, r = .tuple #[u, .int .i64 (ssStore s).Last] ∧ ∃ F, OwStore w.heap.size w' u (ssStore s) F) := by
 have H := h
 obtain ⟨t0, t1, t4, t5, rfl, h0, h1, h4, h5⟩ := h
 obtain ⟨a0, n0, k0, rfl⟩ := h0.shape
 obtain ⟨a1, n1, k1, rfl⟩ := h1.shape
 obtain ⟨a4, n4, k4, rfl⟩ := h4.shape
 obtain ⟨a5, n5, k5, rfl⟩ := h5.shape
 have hst : RdState w (.agg #[.int .i64 s.State.Index, .int .i64 s.State.Time, .slice a4 n4 k4, .slice a5 n5 k5, .int .i64 s.State.Lease.Holder, .int .i64 s.State.Lease.Epoch, .int .i64 s.State.Lease.Until]) s.State := ⟨_, _, rfl, h4, h5⟩
 obtain ⟨WP, hWP⟩ : ∃ WP, WP = w.alloc (.cells #[.slice a0 n0 k0, .slice a1 n1 k1, .int .i64 s.State.Index, .int .i64 s.State.Time, .slice a4 n4 k4, .slice a5 n5 k5, .int .i64 s.State.Lease.Holder, .int .i64 s.State.Lease.Epoch, .int .i64 s.State.Lease.Until, .int .i64 s.Num, .int .i64 s.Last, .int .i64 s.Busy] 41) := ⟨_, rfl⟩
 have hEP : Ext w WP := by rw [hWP]; exact (Ext.refl _).alloc _
 have hsP : WP.heap.size = w.heap.size + 1 := by rw [hWP]; simp
 have KP : Blk WP w.heap.size 41 #[.slice a0 n0 k0, .slice a1 n1 k1, .int .i64 s.State.Index, .int .i64 s.State.Time, .slice a4 n4 k4, .slice a5 n5 k5, .int .i64 s.State.Lease.Holder, .int .i64 s.State.Lease.Epoch, .int .i64 s.State.Lease.Until, .int .i64 s.Num, .int .i64 s.Last, .int .i64 s.Busy] := by rw [hWP]; exact Blk.new _ _ _
 obtain ⟨W0, hW0⟩ : ∃ W0, W0 = WP.alloc (.cells #[.slice none 0 0, .slice none 0 0, .int .i64 0, .int .i64 0, .slice none 0 0, .slice none 0 0, .int .i64 0, .int .i64 0, .int .i64 0, .int .i64 0, .int .i64 0, .int .i64 0] 41) := ⟨_, rfl⟩
 have hE0 : Ext WP W0 := by rw [hW0]; exact (Ext.refl _).alloc _
 have hs0 : W0.heap.size = w.heap.size + 1 + 1 := by rw [hW0]; simp [hsP]
 have KR : Blk W0 (w.heap.size + 1) 41 #[.slice none 0 0, .slice none 0 0, .int .i64 0, .int .i64 0, .slice none 0 0, .slice none 0 0, .int .i64 0, .int .i64 0, .int .i64 0, .int .i64 0, .int .i64 0, .int .i64 0] := by rw [hW0, ← hsP]; exact Blk.new _ _ _
 have CP0 := (KP.ext hE0).cell; have FP0 := (KP.ext hE0).frozen
 have CR0 := KR.cell; have FR0 := KR.frozen
 have H0 := Lib.hid hW0; have HP := Lib.hid hWP
 clear hW0 hWP
 go_enter Tryz.func23, Tryz.ntmps23
 go_wp2_with fail
 rw [← HP.out, ← H0.out]
 refine (storeOk_k (H.ext (hEP.trans hE0))).mono ?_
 rintro e w1 ⟨rfl, hx1⟩
 have KP1 := (KP.ext hE0).ext hx1; have KR1 := KR.ext hx1
 have CP1 := KP1.cell; have FP1 := KP1.frozen; have CR1 := KR1.cell; have FR1 := KR1.frozen
 have hE1 : Ext w w1 := (hEP.trans hE0).trans hx1
 have hz1 := hx1.size
 cases hb : storeOk s
 ·
  go_wp2_with fail
  refine bodyPost_ret (by simp [results, Tryz.results23, go_sem, *]; try rfl) rfl ?_
  rw [show ssStore s = ⟨⟨[], []⟩, ⟨0, 0, [], [], ⟨0, 0, 0⟩⟩, 0, 0, 0⟩ by simp [ssStore, hb]]
  clear CP1 FP1 CR1 FR1 CP0 FP0 CR0 FR0
  refine ⟨_, rfl, xT, _, rfl, [], OwStore.nil _ _⟩
 obtain ⟨hn0, hn1⟩ := storeOk_num hb
 go_wp2_with fail
 refine (copyStore_k (H.ext hE1) (diskOk_small (storeOk_disk hb)) (stateOk_small (storeOk_state hb))).mono ?_
 rintro e w2 ⟨_, rfl, hx2, F, u0, u1, u4, u5, ss0, ss1, rfl, g0, g1, g4, g5, hdj, -⟩
 have gd : IsDisk w1.heap.size w2 (.agg #[u0, u1]) s.Disk := ⟨_, _, ss0, ss1, rfl, g0, g1, hdj⟩
 obtain ⟨b0, m0, j0, rfl⟩ := g0.nest.shape
 obtain ⟨b1, m1, j1, rfl⟩ := g1.nest.shape
 obtain ⟨b4, m4, j4, rfl⟩ := g4.shape
 obtain ⟨b5, m5, j5, rfl⟩ := g5.shape
 obtain ⟨X, hX⟩ : ∃ X, X = w2.heap.size := ⟨_, rfl⟩
 obtain ⟨W3, hW3⟩ : ∃ W3, W3 = w2.alloc (.cells #[.slice b0 m0 j0, .slice b1 m1 j1, .int .i64 s.State.Index, .int .i64 s.State.Time, .slice b4 m4 j4, .slice b5 m5 j5, .int .i64 s.State.Lease.Holder, .int .i64 s.State.Lease.Epoch, .int .i64 s.State.Lease.Until, .int .i64 s.Num, .int .i64 s.Last, .int .i64 s.Busy] 41) := ⟨_, rfl⟩
 have hE3 : Ext w2 W3 := by rw [hW3]; exact (Ext.refl _).alloc _
 have KX3 : Blk W3 X 41 #[.slice b0 m0 j0, .slice b1 m1 j1, .int .i64 s.State.Index, .int .i64 s.State.Time, .slice b4 m4 j4, .slice b5 m5 j5, .int .i64 s.State.Lease.Holder, .int .i64 s.State.Lease.Epoch, .int .i64 s.State.Lease.Until, .int .i64 s.Num, .int .i64 s.Last, .int .i64 s.Busy] := by rw [hW3, hX]; exact Blk.new _ _ _
 have KP2 := KP1.ext hx2; have CP2 := KP2.cell
 have hPX : w.heap.size + 1 < w2.heap.size := by have := hx2.size; omega
 have hPX0 : w.heap.size < w2.heap.size := by omega
 have KP3 := KP2.ext hE3; have KR3 := (KR1.ext hx2).ext hE3
 have hXb : w1.heap.size ≤ X := by rw [hX]; exact hx2.size
 have HX := Lib.hid hX; have HW3 := Lib.hid hW3
 have hPY : w.heap.size + 1 < X := by omega
 have gd := gd.ext hE3; have g4 := Own.ext g4 hE3; have g5 := Own.ext g5 hE3
 have hE9 : Ext w W3 := (hE1.trans hx2).trans hE3
 clear hX hW3 g0 g1 hdj
 by_cases hy : s.Busy = 0
 ·
  have CP3 := KP3.cell; have CX3 := KX3.cell; have CR3 := KR3.cell; have FR3 := KR3.frozen
  go_wp2_with fail
  have hW3 := HW3.out
  rw [hy] at hW3
  rw [← hW3, ← HX.out]
  clear CP1 FP1 CR1 FR1 CP0 FP0 CR0 FR0 CP2 hW3
  go_region
  all_goals
   go_wp2_with fail
   refine bodyPost_ret (by simp [results, Tryz.results23, go_sem, *]; try rfl) rfl ?_
   have hm : ssStore s = ⟨s.Disk, s.State, s.Num, s.Last, 0⟩ := by
    have h9 : s = ⟨s.Disk, s.State, s.Num, s.Last, s.Busy⟩ := rfl
    rw [hy] at h9
    unfold ssStore
    rw [if_pos hb, if_pos hy]
    exact h9
   rw [hm]
   clear hm
   clear CP3 CX3 CR3 FR3
   refine ⟨_, rfl, xT, _, rfl, store_of (IsDisk.mono (B := w1.heap.size) (IsDisk.keep gd chgT) oM) (OwnI.mono (B := w1.heap.size) (OwnI.keep g4 chgT) oM) (OwnI.mono (B := w1.heap.size) (OwnI.keep g5 chgT) oM) _ _ _⟩
 go_wp2_with fail
 rw [← HW3.out, ← HX.out]
 refine (synced_c _ _ s.Disk.Kept _ s.Disk.Wait (h0.ext hE9) (h1.ext hE9)).mono ?_
 rintro e w4 ⟨_, rfl, hx4, hd⟩
 obtain ⟨d0, d1, d2, d3, d4, d5, rfl⟩ := hd.shape
 have KP4 := KP3.ext hx4; have KX4 := KX3.ext hx4; have KR4 := KR3.ext hx4
 have CP4 := KP4.cell; have CX4 := KX4.cell; have CR4 := KR4.cell; have FR4 := KR4.frozen; have FX4 := KX4.frozen
 have hz4 := hx4.size
 clear CP1 FP1 CR1 FR1 CP0 FP0 CR0 FR0 CP2
 go_wp2_with fail
 have hX3 : X < W3.heap.size := KX3.lt
 have k4 : OwnI w1.heap.size 113 2 w4 (.slice b4 m4 j4) (flPair s.State.Pairs) := Own.ext g4 hx4
 have k5 : OwnI w1.heap.size 95 5 w4 (.slice b5 m5 j5) (flJob s.State.Jobs) := Own.ext g5 hx4
 have hz9 := hE9.size
 go_region
 all_goals
  go_wp2_with fail
  refine bodyPost_ret (by simp [results, Tryz.results23, go_sem, *]; try rfl) rfl ?_
  have hm : ssStore s = ⟨fallenDisk true [] s.Disk, s.State, s.Num + 1, s.Busy, 0⟩ := by
   unfold ssStore
   rw [if_pos hb, if_neg hy]
  rw [hm]
  clear hm
  clear CP4 CX4 CR4 FR4 FX4
  refine ⟨_, rfl, xT, _, rfl, store_of (IsDisk.mono (B := W3.heap.size) (IsDisk.keep hd chgT) oM) (OwnI.mono (B := w1.heap.size) ?_ oM) (OwnI.mono (B := w1.heap.size) ?_ oM) _ _ _⟩
  ·
   repeat (first | (with_reducible exact k4) | (with_reducible refine OwnI.drewd ?_) | (with_reducible refine OwnI.low ?_ oM _) | (with_reducible refine OwnI.boxed (t := 41) ?_ (by exact blkT) dC _))
  repeat (first | (with_reducible exact k5) | (with_reducible refine OwnI.drewd ?_) | (with_reducible refine OwnI.low ?_ oM _) | (with_reducible refine OwnI.boxed (t := 41) ?_ (by exact blkT) dC _))
end Go.Proofs.YtlnkggpemdpemaaGreat
