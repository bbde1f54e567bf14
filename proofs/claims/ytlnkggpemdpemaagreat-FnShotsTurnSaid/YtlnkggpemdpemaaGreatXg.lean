/- Contracts and plain laws: Sb Sb2. -/
import Derived.Test.YtlnkggpemdpemaaGreatYa
import Derived.Test.YtlnkggpemdpemaaGreatXo
import Derived.Test.YtlnkggpemdpemaaGreatYn
import Derived.Test.YtlnkggpemdpemaaGreatYm
import Derived.Deep.DeepCutAuto
set_option linter.unusedSimpArgs false
set_option linter.unusedVariables false
set_option maxHeartbeats 8000000
set_option maxRecDepth 100000
namespace Go.G8
open Go.RowKit
open Go.Proofs.YtlnkggpemdpemaaGreat
noncomputable def sbSlot (d : DDisk) : Int := if newOk d then 1 - newAt d else 0
def sbShot (s : DStore) : DShot := ⟨s.Num + 1, s.State⟩
def sbGo (s : DStore) : Bool := decide (s.Busy = 0) && (decide (s.Last + 4 ≤ s.State.Index) && decide (s.Num < 1000000000))
noncomputable def sbOk (s : DStore) : Bool := storeOk s && (sbGo s && shOk s.Disk (sbSlot s.Disk) (sbShot s))
noncomputable def sbD (s : DStore) : DStore := if storeOk s then (if sbOk s then ⟨shD s.Disk (sbSlot s.Disk) (sbShot s), s.State, s.Num, s.Last, s.State.Index⟩ else s) else ⟨⟨[], []⟩, ⟨0, 0, [], [], ⟨0, 0, 0⟩⟩, 0, 0, 0⟩
theorem storeOk_bounds {s : DStore} (h : storeOk s = true) : 0 ≤ s.Num ∧ s.Num ≤ 1000000000 ∧ 0 ≤ s.Last ∧ s.Last ≤ s.State.Index ∧ s.State.Index ≤ 2000 := by
 have h2 := stateOk_index (storeOk_state h)
 simp only [storeOk, Bool.and_eq_true] at h
 have h3 := inb_true.1 h.2.2.1
 have h4 := inb_true.1 h.2.2.2.1
 omega
theorem Upd.drewd {a b : World} {fs : List Nat} (h : Upd a b fs) : Upd a b.drew fs := h.ext (Ext.drew (Ext.refl _))
end Go.G8
namespace Go.Proofs.YtlnkggpemdpemaaGreat
open Go.RowKit Go.G8
theorem OwStore.state {B : Nat} {w : World} {s : DStore} {F : List Nat} {t0 t1 t4 t5 x2 x3 x6 x7 x8 x9 x10 x11 : Value} (h : OwStore B w (.agg #[t0, t1, x2, x3, t4, t5, x6, x7, x8, x9, x10, x11]) s F) : OwnI B 113 2 w t4 (flPair s.State.Pairs) ∧ OwnI B 95 5 w t5 (flJob s.State.Jobs) := by
 obtain ⟨u0, u1, u4, u5, s0, s1, e, h0, h1, h4, h5, _, _⟩ := h
 injection e with e
 injection e with e
 injection e with _ e
 injection e with _ e
 injection e with _ e
 injection e with _ e
 injection e with e4 e
 injection e with e5 e
 subst e4; subst e5
 exact ⟨h4, h5⟩
theorem shotBegun_k {w : World} {v : Value} {s : DStore} (h : RdStore w v s) : Calls Tryz.prog 22 #[v] w (Ret w fun r w' => ∃ u, r = .tuple #[u, .bool (sbOk s)] ∧ ∃ F, OwStore w.heap.size w' u (sbD s) F) := by
 have HS := Lib.hid h
 obtain ⟨a0, n0, k0, a1, n1, k1, a4, n4, k4, a5, n5, k5, rfl⟩ := h.shape
 have HDD := Lib.hid h.disk.1
 have HST := Lib.hid h.disk.2
 clear h
 obtain ⟨W1, hW1⟩ : ∃ W1, W1 = (w.alloc (.cells #[.slice a0 n0 k0, .slice a1 n1 k1, .int .i64 s.State.Index, .int .i64 s.State.Time, .slice a4 n4 k4, .slice a5 n5 k5, .int .i64 s.State.Lease.Holder, .int .i64 s.State.Lease.Epoch, .int .i64 s.State.Lease.Until, .int .i64 s.Num, .int .i64 s.Last, .int .i64 s.Busy] 41)).alloc (.cells #[.slice none 0 0, .slice none 0 0, .int .i64 0, .int .i64 0, .slice none 0 0, .slice none 0 0, .int .i64 0, .int .i64 0, .int .i64 0, .int .i64 0, .int .i64 0, .int .i64 0] 41) := ⟨_, rfl⟩
 have E1 : Ext w W1 := by rw [hW1]; exact ((Ext.refl _).alloc _).alloc _
 have KS1 : Blk W1 w.heap.size 41 #[.slice a0 n0 k0, .slice a1 n1 k1, .int .i64 s.State.Index, .int .i64 s.State.Time, .slice a4 n4 k4, .slice a5 n5 k5, .int .i64 s.State.Lease.Holder, .int .i64 s.State.Lease.Epoch, .int .i64 s.State.Lease.Until, .int .i64 s.Num, .int .i64 s.Last, .int .i64 s.Busy] := by rw [hW1]; exact (Blk.new _ _ _).alloc _
 have KR1 : Blk W1 (w.heap.size + 1) 41 #[.slice none 0 0, .slice none 0 0, .int .i64 0, .int .i64 0, .slice none 0 0, .slice none 0 0, .int .i64 0, .int .i64 0, .int .i64 0, .int .i64 0, .int .i64 0, .int .i64 0] := by rw [hW1]; exact Blk.new2 _ _ _ _
 have hz1 : w.heap.size + 1 < W1.heap.size := by rw [hW1]; simp
 have HW1 := Lib.hid hW1
 clear hW1
 go_enter Tryz.func22, Tryz.ntmps22
 go_wp2_with fail
 rw [← HW1.out]
 have CS1 := KS1.cell; have FS1 := KS1.frozen; have LS1 := KS1.lt; have CR1 := KR1.cell; have FR1 := KR1.frozen; have LR1 := KR1.lt
 go_wp2_with fail
 refine (storeOk_r (HS.out.ext E1)).mono ?_
 rintro e9 w2 ⟨rfl, hx2⟩
 have E2 : Ext w w2 := E1.trans hx2
 have hz2 := hx2.size
 have KS2 := KS1.ext hx2; have KR2 := KR1.ext hx2
 clear CS1 FS1 LS1 CR1 FR1 LR1
 have CS2 := KS2.cell; have FS2 := KS2.frozen; have LS2 := KS2.lt; have CR2 := KR2.cell; have FR2 := KR2.frozen; have LR2 := KR2.lt
 cases hso : storeOk s
 ·
  have e1 : sbOk s = false := by simp [sbOk, hso]
  have e2 : sbD s = ⟨⟨[], []⟩, ⟨0, 0, [], [], ⟨0, 0, 0⟩⟩, 0, 0, 0⟩ := by simp [sbD, hso]
  have HA1 := Lib.hid e1; have HA2 := Lib.hid e2
  clear e1 e2
  go_wp2_with fail
  refine bodyPost_ret (by simp [results, Tryz.results22, go_sem, CR2, FR2, LR2]; try rfl) rfl ?_
  refine ⟨_, rfl, xT, _, by (rw [HA1.out]; try rfl), ?_⟩
  rw [HA2.out]
  exact OwStore.of (IsDisk.nil _ _) (OwnI.nil _ _ _ _) (OwnI.nil _ _ _ _)
 have HSO := Lib.hid hso
 have hbd := storeOk_bounds hso
 have hdk := storeOk_disk hso
 obtain ⟨p1, p2, p3, p4, p5⟩ := hbd
 have HDK := Lib.hid hdk
 have HNO : Hid (sbOk s = false → sbD s = s) := Lib.hid (fun h => by simp [sbD, hso, h])
 clear hso hdk
 go_wp2_with fail
 refine (copyStore_k (HS.out.ext E2) (diskOk_small HDK.out) (stateOk_small (storeOk_state HSO.out))).mono ?_
 rintro e9 w3 ⟨_, rfl, hx3, F3, g3⟩
 obtain ⟨b0, m0, j0, b1, m1, j1, b4, m4, j4, b5, m5, j5, rfl⟩ := g3.rd.shape
 have hz3 := hx3.size
 obtain ⟨w4, hW4⟩ : ∃ w4, w4 = w3.alloc (.cells #[.slice b0 m0 j0, .slice b1 m1 j1, .int .i64 s.State.Index, .int .i64 s.State.Time, .slice b4 m4 j4, .slice b5 m5 j5, .int .i64 s.State.Lease.Holder, .int .i64 s.State.Lease.Epoch, .int .i64 s.State.Lease.Until, .int .i64 s.Num, .int .i64 s.Last, .int .i64 s.Busy] 41) := ⟨_, rfl⟩
 have X4 : Ext w2 w4 := by rw [hW4]; exact hx3.alloc _
 have KO4 : Blk w4 w3.heap.size 41 #[.slice b0 m0 j0, .slice b1 m1 j1, .int .i64 s.State.Index, .int .i64 s.State.Time, .slice b4 m4 j4, .slice b5 m5 j5, .int .i64 s.State.Lease.Holder, .int .i64 s.State.Lease.Epoch, .int .i64 s.State.Lease.Until, .int .i64 s.Num, .int .i64 s.Last, .int .i64 s.Busy] := by rw [hW4]; exact Blk.new _ _ _
 have g4 : OwStore w2.heap.size w4 (.agg #[.slice b0 m0 j0, .slice b1 m1 j1, .int .i64 s.State.Index, .int .i64 s.State.Time, .slice b4 m4 j4, .slice b5 m5 j5, .int .i64 s.State.Lease.Holder, .int .i64 s.State.Lease.Epoch, .int .i64 s.State.Lease.Until, .int .i64 s.Num, .int .i64 s.Last, .int .i64 s.Busy]) s F3 := g3.ext (by rw [hW4]; exact (Ext.refl _).alloc _)
 have HW4 := Lib.hid hW4
 have hz4 : w4.heap.size = w3.heap.size + 1 := by rw [hW4]; simp
 have hz4' : w3.heap.size < w4.heap.size := by omega
 have HZ4 := Lib.hid hz4
 have E4 : Ext w w4 := E2.trans X4
 have KS3 := KS2.ext hx3; have KR3 := KR2.ext hx3
 have KS4 := KS2.ext X4; have KR4 := KR2.ext X4
 have CH4 : Chg w2.heap.size w3 w4 := by rw [HW4.out]; exact (Chg.refl _ _).alloc _
 have hst3 := g3.state
 obtain ⟨gp3, gj3⟩ := hst3
 clear hW4 hz4 CS2 FS2 LS2 CR2 FR2 LR2
 have CS3 := KS3.cell; have FS3 := KS3.frozen; have LS3 := KS3.lt; have CR3 := KR3.cell; have FR3 := KR3.frozen; have LR3 := KR3.lt
 have hw4 : IntKind.i64.wrap (s.Last + 4) = s.Last + 4 := by rw [IntKind.wrap_i64]; omega
 cases hgo : sbGo s
 ·
  have e1 : sbOk s = false := by simp [sbOk, hgo]
  have HA1 := Lib.hid e1
  have HA2 := Lib.hid (HNO.out e1)
  have hq : (s.Busy != 0) = true ∨ ((s.Busy != 0) = false ∧ decide (s.State.Index < s.Last + 4) = true) ∨ ((s.Busy != 0) = false ∧ decide (s.State.Index < s.Last + 4) = false ∧ s.Num = 1000000000) := by
   simp only [sbGo, Bool.and_eq_false_iff, decide_eq_false_iff_not] at hgo
   by_cases h1 : s.Busy = 0
   ·
    by_cases h2 : s.State.Index < s.Last + 4
    ·
     exact .inr (.inl ⟨by simp [h1], by simp [h2]⟩)
    refine .inr (.inr ⟨by simp [h1], by simp [h2], ?_⟩)
    rcases hgo with h | h | h
    ·
     exact absurd h1 h
    ·
     omega
    omega
   exact .inl (by simp [h1])
  clear e1 hgo
  rcases hq with hq | ⟨hq, hq2⟩ | ⟨hq, hq2, hq3⟩
  rotate_right
  ·
   have hq4 : (s.Num == 1000000000) = true := by simp [hq3]
   have hq5 : decide (1000000000 ≤ s.Num) = true := by simp; omega
   clear hq3
   go_wp2_with fail
   refine bodyPost_ret (by simp [results, Tryz.results22, go_sem, CR3, FR3, LR3]; try rfl) rfl ?_
   refine ⟨_, rfl, xT, _, by (rw [HA1.out]; try rfl), ?_⟩
   rw [HA2.out]
   exact ⟨F3, (OwStore.keep g3 chgT).mono oM⟩
  all_goals
   go_wp2_with fail
   refine bodyPost_ret (by simp [results, Tryz.results22, go_sem, CR3, FR3, LR3]; try rfl) rfl ?_
   refine ⟨_, rfl, xT, _, by (rw [HA1.out]; try rfl), ?_⟩
   rw [HA2.out]
   exact ⟨F3, (OwStore.keep g3 chgT).mono oM⟩
 have HGO := Lib.hid hgo
 simp only [sbGo, Bool.and_eq_true, decide_eq_true_eq] at hgo
 obtain ⟨h1, h2, h3⟩ := hgo
 have hq1 : (s.Busy != 0) = false := by simp [h1]
 have hq2 : decide (s.State.Index < s.Last + 4) = false := by simp; omega
 have hq3 : (s.Num == 1000000000) = false := by simp; omega
 have hq4 : decide (1000000000 ≤ s.Num) = false := by simp; omega
 have hwn : IntKind.i64.wrap (s.Num + 1) = s.Num + 1 := by rw [IntKind.wrap_i64]; omega
 clear h1 h2 hw4
 go_wp2_with fail
 rw [← HW4.out]
 clear CS3 FS3 LS3 CR3 FR3 LR3
 clear KS3 KR3
 refine (newestShot_k (HDD.out.ext E4)).mono ?_
 rintro e9 w5 ⟨_, rfl, hx5, u, rfl, F9, gs⟩
 obtain ⟨N, hN⟩ : ∃ N, N = newShot s.Disk := ⟨_, rfl⟩
 obtain ⟨A, hA⟩ : ∃ A, A = newAt s.Disk := ⟨_, rfl⟩
 have hat := newAt_is s.Disk
 rw [← hA] at hat ⊢
 obtain ⟨c3, q3, o3, c4, q4, o4, rfl⟩ := gs.rd.shape
 clear gs
 obtain ⟨w6, hW6⟩ : ∃ w6, w6 = w5.alloc (.cells #[.int .i64 (newShot s.Disk).Num, .int .i64 (newShot s.Disk).State.Index, .int .i64 (newShot s.Disk).State.Time, .slice c3 q3 o3, .slice c4 q4 o4, .int .i64 (newShot s.Disk).State.Lease.Holder, .int .i64 (newShot s.Disk).State.Lease.Epoch, .int .i64 (newShot s.Disk).State.Lease.Until] 78) := ⟨_, rfl⟩
 have X6 : Ext w4 w6 := by rw [hW6]; exact hx5.alloc _
 have HW6 := Lib.hid hW6
 have hz5 := hx5.size
 have hz6 := X6.size
 have E6 : Ext w w6 := E4.trans X6
 have KS5 := KS4.ext hx5; have KR5 := KR4.ext hx5; have KO5 := KO4.ext hx5
 have KS6 := KS4.ext X6; have KR6 := KR4.ext X6; have KO6 := KO4.ext X6
 have g6 := g4.ext X6
 clear hW6 hN
 cases hO : newOk s.Disk
 ·
  have hsl : sbSlot s.Disk = 0 := by simp [sbSlot, hO]
  obtain ⟨SL, hSL⟩ : ∃ SL : Int, SL = 0 := ⟨_, rfl⟩
  have HSL := Lib.hid (hsl.trans hSL.symm)
  clear hsl hA hat
  have CS5 := KS5.cell; have FS5 := KS5.frozen; have LS5 := KS5.lt; have CR5 := KR5.cell; have FR5 := KR5.frozen; have LR5 := KR5.lt; have CO5 := KO5.cell; have FO5 := KO5.frozen; have LO5 := KO5.lt
  go_wp2_with fail
  rw [← HW6.out]
  clear KS5 KR5 KO5 CS5 FS5 LS5 CR5 FR5 LR5 CO5 FO5 LO5
  have CS6 := KS6.cell; have FS6 := KS6.frozen; have LS6 := KS6.lt; have CR6 := KR6.cell; have FR6 := KR6.frozen; have LR6 := KR6.lt; have CO6 := KO6.cell; have FO6 := KO6.frozen; have LO6 := KO6.lt
  rw [← hSL]
  clear hSL
  have hRS : RdShot w6 (.agg #[.int .i64 (s.Num + 1), .int .i64 s.State.Index, .int .i64 s.State.Time, .slice a4 n4 k4, .slice a5 n5 k5, .int .i64 s.State.Lease.Holder, .int .i64 s.State.Lease.Epoch, .int .i64 s.State.Lease.Until]) (sbShot s) := by
   obtain ⟨t4, t5, e5, h4, h5⟩ := HST.out.ext E6
   injection e5 with e5
   injection e5 with e5
   injection e5 with _ e5
   injection e5 with _ e5
   injection e5 with e54 e5
   injection e5 with e55 e5
   subst e54; subst e55
   exact ⟨_, _, rfl, h4, h5⟩
  have HRS := Lib.hid hRS
  clear hRS
  refine (shotWrote_k (HDD.out.ext E6) HRS.out SL).mono ?_
  rintro e9 w7 ⟨_, rfl, hx7, ud, rfl, F7, gd⟩
  obtain ⟨e0, f0, g0, e1, f1, g1, rfl⟩ := gd.rd.shape
  have hz7 := hx7.size
  obtain ⟨w8, hW8⟩ : ∃ w8, w8 = w7.alloc (.cells #[.slice e0 f0 g0, .slice e1 f1 g1] 33) := ⟨_, rfl⟩
  have X8 : Ext w6 w8 := by rw [hW8]; exact hx7.alloc _
  have KD8 : Blk w8 w7.heap.size 33 #[.slice e0 f0 g0, .slice e1 f1 g1] := by rw [hW8]; exact Blk.new _ _ _
  have gd := gd.ext (show Ext w7 w8 by rw [hW8]; exact (Ext.refl _).alloc _)
  have HW8 := Lib.hid hW8
  have hz8 := X8.size
  have hz8' := KD8.lt
  have E8 : Ext w w8 := E6.trans X8
  have KS7 := KS6.ext hx7; have KR7 := KR6.ext hx7; have KO7 := KO6.ext hx7
  have KS8 := KS6.ext X8; have KR8 := KR6.ext X8; have KO8 := KO6.ext X8
  have g8 := g6.ext X8
  clear hW8 CS6 FS6 LS6 CR6 FR6 LR6 CO6 FO6 LO6
  have CS7 := KS7.cell; have FS7 := KS7.frozen; have LS7 := KS7.lt; have CR7 := KR7.cell; have FR7 := KR7.frozen; have LR7 := KR7.lt; have CO7 := KO7.cell; have FO7 := KO7.frozen; have LO7 := KO7.lt
  cases hk : shOk s.Disk SL (sbShot s)
  ·
   have e1 : sbOk s = false := by simp only [sbOk, HSL.out, hk]; simp
   have HA1 := Lib.hid e1
   have HA2 := Lib.hid (HNO.out e1)
   clear e1
   go_wp2_with fail
   refine bodyPost_ret (by simp [results, Tryz.results22, go_sem, CR7, FR7, LR7]; try rfl) rfl ?_
   refine ⟨_, rfl, xT, _, by (rw [HA1.out]; try rfl), ?_⟩
   rw [HA2.out]
   exact ⟨F3, (OwStore.keep (g6.ext hx7) chgT).mono oM⟩
  have e1 : sbOk s = true := by simp only [sbOk, HSL.out, hk, HSO.out, HGO.out]; rfl
  have e2 : sbD s = ⟨shD s.Disk SL (sbShot s), s.State, s.Num, s.Last, s.State.Index⟩ := by simp only [sbD, HSO.out, e1, HSL.out]; rfl
  have HA1 := Lib.hid e1; have HA2 := Lib.hid e2
  clear e1 e2 hk
  go_wp2_with fail
  rw [← HW8.out]
  clear KS7 KR7 KO7 CS7 FS7 LS7 CR7 FR7 LR7 CO7 FO7 LO7
  have hn1 : w.heap.size ∉ [w3.heap.size] := by simp; omega
  have hn2 : w7.heap.size ∉ [w3.heap.size] := by simp; omega
  have yb2 : ∀ w', Upd w8 w' [w3.heap.size] → w'.cell? ⟨w.heap.size, 2, none⟩ = some (.int .i64 s.State.Index) := fun w' hw => (KS8.upd hw hn1).cell 2
  have yd0 : ∀ w', Upd w8 w' [w3.heap.size] → w'.cell? ⟨w7.heap.size, 0, none⟩ = some (.slice e0 f0 g0) := fun w' hw => (KD8.upd hw hn2).cell 0
  have yd1 : ∀ w', Upd w8 w' [w3.heap.size] → w'.cell? ⟨w7.heap.size, 1, none⟩ = some (.slice e1 f1 g1) := fun w' hw => (KD8.upd hw hn2).cell 1
  clear hn1 hn2
  obtain ⟨CO8, FO8, LO8⟩ := KO8.cfl
  go_region_held3 (fun w' => Upd w8 w' [w3.heap.size]) (repeat' (first | (with_reducible exact Upd.refl _ _) | (with_reducible assumption) | (with_reducible refine Upd.drewd ?_) | (with_reducible refine Upd.setCell ?_ (List.mem_singleton.2 rfl) _))) (fail)
  clear yb2 yd0 yd1
  obtain ⟨CR8, FR8, LR8⟩ := KR8.cfl
  have CH8 : Chg w2.heap.size w3 w8 := CH4.ext (X6.trans X8)
  go_wp2_with fail
  refine bodyPost_ret (by simp [results, Tryz.results22, go_sem, CR8, FR8, LR8]; try rfl) rfl ?_
  refine ⟨_, rfl, xT, _, by (rw [HA1.out]; try rfl), ?_⟩
  rw [HA2.out]
  exact OwStore.of (IsDisk.mono (IsDisk.keep gd.is chgT) oM) ((OwnI.keep gp3 chgT).mono oM) ((OwnI.keep gj3 chgT).mono oM)
 have hsl : sbSlot s.Disk = 1 - A := by simp [sbSlot, hO, hA]
 obtain ⟨SL, hSL⟩ : ∃ SL : Int, SL = 1 - A := ⟨_, rfl⟩
 have HSL := Lib.hid (hsl.trans hSL.symm)
 have hsub : IntKind.i64.wrap SL = SL := by rw [IntKind.wrap_i64]; omega
 have hsub2 : (1 : Int) - A = SL := hSL.symm
 clear hsl hA hat hSL
 have CS5 := KS5.cell; have FS5 := KS5.frozen; have LS5 := KS5.lt; have CR5 := KR5.cell; have FR5 := KR5.frozen; have LR5 := KR5.lt; have CO5 := KO5.cell; have FO5 := KO5.frozen; have LO5 := KO5.lt
 go_wp2_with fail
 rw [← HW6.out]
 clear KS5 KR5 KO5 CS5 FS5 LS5 CR5 FR5 LR5 CO5 FO5 LO5
 have CS6 := KS6.cell; have FS6 := KS6.frozen; have LS6 := KS6.lt; have CR6 := KR6.cell; have FR6 := KR6.frozen; have LR6 := KR6.lt; have CO6 := KO6.cell; have FO6 := KO6.frozen; have LO6 := KO6.lt
 clear hsub hsub2
 have hRS : RdShot w6 (.agg #[.int .i64 (s.Num + 1), .int .i64 s.State.Index, .int .i64 s.State.Time, .slice a4 n4 k4, .slice a5 n5 k5, .int .i64 s.State.Lease.Holder, .int .i64 s.State.Lease.Epoch, .int .i64 s.State.Lease.Until]) (sbShot s) := by
  obtain ⟨t4, t5, e5, h4, h5⟩ := HST.out.ext E6
  injection e5 with e5
  injection e5 with e5
  injection e5 with _ e5
  injection e5 with _ e5
  injection e5 with e54 e5
  injection e5 with e55 e5
  subst e54; subst e55
  exact ⟨_, _, rfl, h4, h5⟩
 have HRS := Lib.hid hRS
 clear hRS
 refine (shotWrote_k (HDD.out.ext E6) HRS.out SL).mono ?_
 rintro e9 w7 ⟨_, rfl, hx7, ud, rfl, F7, gd⟩
 obtain ⟨e0, f0, g0, e1, f1, g1, rfl⟩ := gd.rd.shape
 have hz7 := hx7.size
 obtain ⟨w8, hW8⟩ : ∃ w8, w8 = w7.alloc (.cells #[.slice e0 f0 g0, .slice e1 f1 g1] 33) := ⟨_, rfl⟩
 have X8 : Ext w6 w8 := by rw [hW8]; exact hx7.alloc _
 have KD8 : Blk w8 w7.heap.size 33 #[.slice e0 f0 g0, .slice e1 f1 g1] := by rw [hW8]; exact Blk.new _ _ _
 have gd := gd.ext (show Ext w7 w8 by rw [hW8]; exact (Ext.refl _).alloc _)
 have HW8 := Lib.hid hW8
 have hz8 := X8.size
 have hz8' := KD8.lt
 have E8 : Ext w w8 := E6.trans X8
 have KS7 := KS6.ext hx7; have KR7 := KR6.ext hx7; have KO7 := KO6.ext hx7
 have KS8 := KS6.ext X8; have KR8 := KR6.ext X8; have KO8 := KO6.ext X8
 have g8 := g6.ext X8
 clear hW8 CS6 FS6 LS6 CR6 FR6 LR6 CO6 FO6 LO6
 have CS7 := KS7.cell; have FS7 := KS7.frozen; have LS7 := KS7.lt; have CR7 := KR7.cell; have FR7 := KR7.frozen; have LR7 := KR7.lt; have CO7 := KO7.cell; have FO7 := KO7.frozen; have LO7 := KO7.lt
 cases hk : shOk s.Disk SL (sbShot s)
 ·
  have e1 : sbOk s = false := by simp only [sbOk, HSL.out, hk]; simp
  have HA1 := Lib.hid e1
  have HA2 := Lib.hid (HNO.out e1)
  clear e1
  go_wp2_with fail
  refine bodyPost_ret (by simp [results, Tryz.results22, go_sem, CR7, FR7, LR7]; try rfl) rfl ?_
  refine ⟨_, rfl, xT, _, by (rw [HA1.out]; try rfl), ?_⟩
  rw [HA2.out]
  exact ⟨F3, (OwStore.keep (g6.ext hx7) chgT).mono oM⟩
 have e1 : sbOk s = true := by simp only [sbOk, HSL.out, hk, HSO.out, HGO.out]; rfl
 have e2 : sbD s = ⟨shD s.Disk SL (sbShot s), s.State, s.Num, s.Last, s.State.Index⟩ := by simp only [sbD, HSO.out, e1, HSL.out]; rfl
 have HA1 := Lib.hid e1; have HA2 := Lib.hid e2
 clear e1 e2 hk
 go_wp2_with fail
 rw [← HW8.out]
 clear KS7 KR7 KO7 CS7 FS7 LS7 CR7 FR7 LR7 CO7 FO7 LO7
 have hn1 : w.heap.size ∉ [w3.heap.size] := by simp; omega
 have hn2 : w7.heap.size ∉ [w3.heap.size] := by simp; omega
 have yb2 : ∀ w', Upd w8 w' [w3.heap.size] → w'.cell? ⟨w.heap.size, 2, none⟩ = some (.int .i64 s.State.Index) := fun w' hw => (KS8.upd hw hn1).cell 2
 have yd0 : ∀ w', Upd w8 w' [w3.heap.size] → w'.cell? ⟨w7.heap.size, 0, none⟩ = some (.slice e0 f0 g0) := fun w' hw => (KD8.upd hw hn2).cell 0
 have yd1 : ∀ w', Upd w8 w' [w3.heap.size] → w'.cell? ⟨w7.heap.size, 1, none⟩ = some (.slice e1 f1 g1) := fun w' hw => (KD8.upd hw hn2).cell 1
 clear hn1 hn2
 obtain ⟨CO8, FO8, LO8⟩ := KO8.cfl
 go_region_held3 (fun w' => Upd w8 w' [w3.heap.size]) (repeat' (first | (with_reducible exact Upd.refl _ _) | (with_reducible assumption) | (with_reducible refine Upd.drewd ?_) | (with_reducible refine Upd.setCell ?_ (List.mem_singleton.2 rfl) _))) (fail)
 clear yb2 yd0 yd1
 obtain ⟨CR8, FR8, LR8⟩ := KR8.cfl
 have CH8 : Chg w2.heap.size w3 w8 := CH4.ext (X6.trans X8)
 go_wp2_with fail
 refine bodyPost_ret (by simp [results, Tryz.results22, go_sem, CR8, FR8, LR8]; try rfl) rfl ?_
 refine ⟨_, rfl, xT, _, by (rw [HA1.out]; try rfl), ?_⟩
 rw [HA2.out]
 exact OwStore.of (IsDisk.mono (IsDisk.keep gd.is chgT) oM) ((OwnI.keep gp3 chgT).mono oM) ((OwnI.keep gj3 chgT).mono oM)
end Go.Proofs.YtlnkggpemdpemaaGreat
