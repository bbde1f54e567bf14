/- The statement FnExactShotBegun: the walk and the row. -/
import Derived.Test.YthdiaijiokoifaaGreatGl
import Derived.Test.YthdiaijiokoifaaGreatGn
import Derived.Test.YthdiaijiokoifaaGreatGm
import Derived.Deep.DeepCutAuto
import Derived.Test.YthdiaijiokoifaaGreatGc
-- Stores put together.
set_option linter.unusedSimpArgs false
set_option linter.unusedVariables false
namespace Go.Proofs.YthdiaijiokoifaaGreat
open Go.RowKit Go.G8

theorem OwStore.of {B : Nat} {w : World} {t0 t1 t4 t5 : Value} {d : DDisk} {i t : Int} {p : List DPair} {j : List DJob} {a b c num last busy : Int} (h : IsDisk B w (.agg #[t0, t1]) d) (h4 : OwnI B 139 2 w t4 (flPair p)) (h5 : OwnI B 123 5 w t5 (flJob j)) :
    ∃ F, OwStore B w (.agg #[t0, t1, .int .i64 i, .int .i64 t, t4, t5, .int .i64 a, .int .i64 b, .int .i64 c, .int .i64 num, .int .i64 last, .int .i64 busy]) ⟨d, ⟨i, t, p, j, ⟨a, b, c⟩⟩, num, last, busy⟩ F := by
  obtain ⟨u0, u1, s0, s1, e, g0, g1, gd⟩ := h
  injection e with e
  injection e with e
  injection e with e0 e
  injection e with e1 e
  subst e0; subst e1
  exact ⟨_, _, _, _, _, s0, s1, rfl, g0, g1, h4, h5, gd, rfl⟩
theorem newAt_is (d : DDisk) : newAt d = 0 ∨ newAt d = 1 := by
  unfold newAt
  split
  · exact .inr rfl
  · exact .inl rfl

end Go.Proofs.YthdiaijiokoifaaGreat

-- ShotBegun of the program.
set_option linter.unusedSimpArgs false
set_option linter.unusedVariables false
namespace Go.Proofs.YthdiaijiokoifaaGreat
open Go.RowKit Go.G8

end Go.Proofs.YthdiaijiokoifaaGreat
namespace Go.G8
open Go.RowKit
open Go.Proofs.YthdiaijiokoifaaGreat
/-- What ShotBegun hands back. -/
noncomputable def sbSlot (d : DDisk) : Int := if newOk d then 1 - newAt d else 0
def sbShot (s : DStore) : DShot := ⟨s.Num + 1, s.State⟩
def sbGo (s : DStore) : Bool := decide (s.Busy = 0) && (decide (s.Last + 4 ≤ s.State.Index) && decide (s.Num < 1000000000))
noncomputable def sbOk (s : DStore) : Bool := storeOk s && (sbGo s && shOk s.Disk (sbSlot s.Disk) (sbShot s))
noncomputable def sbD (s : DStore) : DStore := if storeOk s then (if sbOk s then ⟨shD s.Disk (sbSlot s.Disk) (sbShot s), s.State, s.Num, s.Last, s.State.Index⟩ else s) else ⟨⟨[], []⟩, ⟨0, 0, [], [], ⟨0, 0, 0⟩⟩, 0, 0, 0⟩
theorem storeOk_bounds {s : DStore} (h : storeOk s = true) : 0 ≤ s.Num ∧ s.Num ≤ 1000000000 ∧ 0 ≤ s.Last ∧ s.Last ≤ s.State.Index ∧ s.State.Index ≤ 2000 := by
  have h2 := stateOk_index (storeOk_state h)
  simp only [storeOk, Bool.and_eq_true] at h
  have h3 := inb_true.1 h.2.2.1
  have h4 := inb_true.1 h.2.2.2.1
  omega
theorem Upd.drewd {a b : World} {fs : List Nat} (h : Upd a b fs) : Upd a b.drew fs := h.ext (Ext.drew (Ext.refl _))
end Go.G8
namespace Go.Proofs.YthdiaijiokoifaaGreat
open Go.RowKit Go.G8
theorem OwStore.state {B : Nat} {w : World} {s : DStore} {F : List Nat} {t0 t1 t4 t5 x2 x3 x6 x7 x8 x9 x10 x11 : Value} (h : OwStore B w (.agg #[t0, t1, x2, x3, t4, t5, x6, x7, x8, x9, x10, x11]) s F) : OwnI B 139 2 w t4 (flPair s.State.Pairs) ∧ OwnI B 123 5 w t5 (flJob s.State.Jobs) := by
  obtain ⟨u0, u1, u4, u5, s0, s1, e, h0, h1, h4, h5, _, _⟩ := h
  injection e with e
  injection e with e
  injection e with _ e
  injection e with _ e
  injection e with _ e
  injection e with _ e
  injection e with e4 e
  injection e with e5 e
  subst e4; subst e5
  exact ⟨h4, h5⟩
set_option maxHeartbeats 4000000 in
set_option maxRecDepth 100000 in
theorem shotBegun_k {w : World} {v : Value} {s : DStore} (h : RdStore w v s) : Calls Tryz.prog 29 #[v] w (Ret w fun r w' => ∃ u, r = .tuple #[u, .bool (sbOk s)] ∧ ∃ F, OwStore w.heap.size w' u (sbD s) F) := by
  have HS := Lib.hid h
  obtain ⟨a0, n0, k0, a1, n1, k1, a4, n4, k4, a5, n5, k5, rfl⟩ := h.shape
  have HDD := Lib.hid h.disk.1
  have HST := Lib.hid h.disk.2
  clear h
  obtain ⟨W1, hW1⟩ : ∃ W1, W1 = (w.alloc (.cells #[.slice a0 n0 k0, .slice a1 n1 k1, .int .i64 s.State.Index, .int .i64 s.State.Time, .slice a4 n4 k4, .slice a5 n5 k5, .int .i64 s.State.Lease.Holder, .int .i64 s.State.Lease.Epoch, .int .i64 s.State.Lease.Until, .int .i64 s.Num, .int .i64 s.Last, .int .i64 s.Busy] 58)).alloc (.cells #[.slice none 0 0, .slice none 0 0, .int .i64 0, .int .i64 0, .slice none 0 0, .slice none 0 0, .int .i64 0, .int .i64 0, .int .i64 0, .int .i64 0, .int .i64 0, .int .i64 0] 58) := ⟨_, rfl⟩
  have E1 : Ext w W1 := by rw [hW1]; exact ((Ext.refl _).alloc _).alloc _
  have KS1 : Blk W1 w.heap.size 58 #[.slice a0 n0 k0, .slice a1 n1 k1, .int .i64 s.State.Index, .int .i64 s.State.Time, .slice a4 n4 k4, .slice a5 n5 k5, .int .i64 s.State.Lease.Holder, .int .i64 s.State.Lease.Epoch, .int .i64 s.State.Lease.Until, .int .i64 s.Num, .int .i64 s.Last, .int .i64 s.Busy] := by rw [hW1]; exact (Blk.new _ _ _).alloc _
  have KR1 : Blk W1 (w.heap.size + 1) 58 #[.slice none 0 0, .slice none 0 0, .int .i64 0, .int .i64 0, .slice none 0 0, .slice none 0 0, .int .i64 0, .int .i64 0, .int .i64 0, .int .i64 0, .int .i64 0, .int .i64 0] := by rw [hW1]; exact Blk.new2 _ _ _ _
  have hz1 : w.heap.size + 1 < W1.heap.size := by rw [hW1]; simp
  have HW1 := Lib.hid hW1
  clear hW1
  go_enter Tryz.func29, Tryz.ntmps29
  go_wp2_with fail
  rw [← HW1.out]
  have CS1 := KS1.cell; have FS1 := KS1.frozen; have LS1 := KS1.lt; have CR1 := KR1.cell; have FR1 := KR1.frozen; have LR1 := KR1.lt
  go_wp2_with fail
  refine (storeOk_r (HS.out.ext E1)).mono ?_
  rintro e9 w2 ⟨rfl, hx2⟩
  have E2 : Ext w w2 := E1.trans hx2
  have hz2 := hx2.size
  have KS2 := KS1.ext hx2; have KR2 := KR1.ext hx2
  clear CS1 FS1 LS1 CR1 FR1 LR1
  have CS2 := KS2.cell; have FS2 := KS2.frozen; have LS2 := KS2.lt; have CR2 := KR2.cell; have FR2 := KR2.frozen; have LR2 := KR2.lt
  cases hso : storeOk s
  · have e1 : sbOk s = false := by simp [sbOk, hso]
    have e2 : sbD s = ⟨⟨[], []⟩, ⟨0, 0, [], [], ⟨0, 0, 0⟩⟩, 0, 0, 0⟩ := by simp [sbD, hso]
    have HA1 := Lib.hid e1; have HA2 := Lib.hid e2
    clear e1 e2
    go_wp2_with fail
    refine bodyPost_ret (by simp [results, Tryz.results29, go_sem, CR2, FR2, LR2]; try rfl) rfl ?_
    refine ⟨_, rfl, by repeat' (first | (with_reducible exact Ext.refl _) | (with_reducible assumption) | (with_reducible refine Ext.drewN ?_ _) | (with_reducible refine Ext.drew ?_) | (with_reducible refine Ext.alloc ?_ _) | (with_reducible refine Ext.setCell ?_ ?_ _) | (with_reducible refine Ext.setRow ?_ ?_ _) | (with_reducible exact Nat.le_refl _) | (with_reducible refine Ext.trans ?_ (by assumption)) | omega), _, by (rw [HA1.out]; try rfl), ?_⟩
    rw [HA2.out]
    exact OwStore.of (IsDisk.nil _ _) (OwnI.nil _ _ _ _) (OwnI.nil _ _ _ _)

  have HSO := Lib.hid hso
  have hbd := storeOk_bounds hso
  have hdk := storeOk_disk hso
  obtain ⟨p1, p2, p3, p4, p5⟩ := hbd
  have HDK := Lib.hid hdk
  have HNO : Hid (sbOk s = false → sbD s = s) := Lib.hid (fun h => by simp [sbD, hso, h])
  clear hso hdk
  go_wp2_with fail
  refine (copyStore_k (HS.out.ext E2) (diskOk_small HDK.out) (stateOk_small (storeOk_state HSO.out))).mono ?_
  rintro e9 w3 ⟨_, rfl, hx3, F3, g3⟩
  obtain ⟨b0, m0, j0, b1, m1, j1, b4, m4, j4, b5, m5, j5, rfl⟩ := g3.rd.shape
  have hz3 := hx3.size
  obtain ⟨w4, hW4⟩ : ∃ w4, w4 = w3.alloc (.cells #[.slice b0 m0 j0, .slice b1 m1 j1, .int .i64 s.State.Index, .int .i64 s.State.Time, .slice b4 m4 j4, .slice b5 m5 j5, .int .i64 s.State.Lease.Holder, .int .i64 s.State.Lease.Epoch, .int .i64 s.State.Lease.Until, .int .i64 s.Num, .int .i64 s.Last, .int .i64 s.Busy] 58) := ⟨_, rfl⟩
  have X4 : Ext w2 w4 := by rw [hW4]; exact hx3.alloc _
  have KO4 : Blk w4 w3.heap.size 58 #[.slice b0 m0 j0, .slice b1 m1 j1, .int .i64 s.State.Index, .int .i64 s.State.Time, .slice b4 m4 j4, .slice b5 m5 j5, .int .i64 s.State.Lease.Holder, .int .i64 s.State.Lease.Epoch, .int .i64 s.State.Lease.Until, .int .i64 s.Num, .int .i64 s.Last, .int .i64 s.Busy] := by rw [hW4]; exact Blk.new _ _ _
  have g4 : OwStore w2.heap.size w4 (.agg #[.slice b0 m0 j0, .slice b1 m1 j1, .int .i64 s.State.Index, .int .i64 s.State.Time, .slice b4 m4 j4, .slice b5 m5 j5, .int .i64 s.State.Lease.Holder, .int .i64 s.State.Lease.Epoch, .int .i64 s.State.Lease.Until, .int .i64 s.Num, .int .i64 s.Last, .int .i64 s.Busy]) s F3 := g3.ext (by rw [hW4]; exact (Ext.refl _).alloc _)
  have HW4 := Lib.hid hW4
  have hz4 : w4.heap.size = w3.heap.size + 1 := by rw [hW4]; simp
  have hz4' : w3.heap.size < w4.heap.size := by omega
  have HZ4 := Lib.hid hz4
  have E4 : Ext w w4 := E2.trans X4
  have KS3 := KS2.ext hx3; have KR3 := KR2.ext hx3
  have KS4 := KS2.ext X4; have KR4 := KR2.ext X4
  have CH4 : Chg w2.heap.size w3 w4 := by rw [HW4.out]; exact (Chg.refl _ _).alloc _
  have hst3 := g3.state
  obtain ⟨gp3, gj3⟩ := hst3
  clear hW4 hz4 CS2 FS2 LS2 CR2 FR2 LR2
  have CS3 := KS3.cell; have FS3 := KS3.frozen; have LS3 := KS3.lt; have CR3 := KR3.cell; have FR3 := KR3.frozen; have LR3 := KR3.lt
  have hw4 : IntKind.i64.wrap (s.Last + 4) = s.Last + 4 := by rw [IntKind.wrap_i64]; omega
  cases hgo : sbGo s
  · have e1 : sbOk s = false := by simp [sbOk, hgo]
    have HA1 := Lib.hid e1
    have HA2 := Lib.hid (HNO.out e1)
    have hq : (s.Busy != 0) = true ∨ ((s.Busy != 0) = false ∧ decide (s.State.Index < s.Last + 4) = true) ∨ ((s.Busy != 0) = false ∧ decide (s.State.Index < s.Last + 4) = false ∧ s.Num = 1000000000) := by
      simp only [sbGo, Bool.and_eq_false_iff, decide_eq_false_iff_not] at hgo
      by_cases h1 : s.Busy = 0
      · by_cases h2 : s.State.Index < s.Last + 4
        · exact .inr (.inl ⟨by simp [h1], by simp [h2]⟩)
        · refine .inr (.inr ⟨by simp [h1], by simp [h2], ?_⟩)
          rcases hgo with h | h | h
          · exact absurd h1 h
          · omega
          · omega
      · exact .inl (by simp [h1])
    clear e1 hgo
    rcases hq with hq | ⟨hq, hq2⟩ | ⟨hq, hq2, hq3⟩
    rotate_right
    · have hq4 : (s.Num == 1000000000) = true := by simp [hq3]
      have hq5 : decide (1000000000 ≤ s.Num) = true := by simp; omega
      clear hq3
      go_wp2_with fail
      refine bodyPost_ret (by simp [results, Tryz.results29, go_sem, CR3, FR3, LR3]; try rfl) rfl ?_
      refine ⟨_, rfl, by repeat' (first | (with_reducible exact Ext.refl _) | (with_reducible assumption) | (with_reducible refine Ext.drewN ?_ _) | (with_reducible refine Ext.drew ?_) | (with_reducible refine Ext.alloc ?_ _) | (with_reducible refine Ext.setCell ?_ ?_ _) | (with_reducible refine Ext.setRow ?_ ?_ _) | (with_reducible exact Nat.le_refl _) | (with_reducible refine Ext.trans ?_ (by assumption)) | omega), _, by (rw [HA1.out]; try rfl), ?_⟩
      rw [HA2.out]
      exact ⟨F3, (OwStore.keep g3 (by repeat' (first | (with_reducible exact Chg.refl _ _) | (with_reducible refine Chg.drewN ?_ _) | (with_reducible refine Chg.drew ?_) | (with_reducible refine Chg.alloc ?_ _) | (with_reducible refine Chg.setLow ?_ (by omega) _) | (with_reducible refine Chg.setNew ?_ (by omega) _) | (with_reducible refine Chg.setRow ?_ (by omega) _) | (with_reducible refine Chg.ext ?_ (by assumption)) | omega))).mono (by omega)⟩

    all_goals
      go_wp2_with fail
      refine bodyPost_ret (by simp [results, Tryz.results29, go_sem, CR3, FR3, LR3]; try rfl) rfl ?_
      refine ⟨_, rfl, by repeat' (first | (with_reducible exact Ext.refl _) | (with_reducible assumption) | (with_reducible refine Ext.drewN ?_ _) | (with_reducible refine Ext.drew ?_) | (with_reducible refine Ext.alloc ?_ _) | (with_reducible refine Ext.setCell ?_ ?_ _) | (with_reducible refine Ext.setRow ?_ ?_ _) | (with_reducible exact Nat.le_refl _) | (with_reducible refine Ext.trans ?_ (by assumption)) | omega), _, by (rw [HA1.out]; try rfl), ?_⟩
      rw [HA2.out]
      exact ⟨F3, (OwStore.keep g3 (by repeat' (first | (with_reducible exact Chg.refl _ _) | (with_reducible refine Chg.drewN ?_ _) | (with_reducible refine Chg.drew ?_) | (with_reducible refine Chg.alloc ?_ _) | (with_reducible refine Chg.setLow ?_ (by omega) _) | (with_reducible refine Chg.setNew ?_ (by omega) _) | (with_reducible refine Chg.setRow ?_ (by omega) _) | (with_reducible refine Chg.ext ?_ (by assumption)) | omega))).mono (by omega)⟩

  have HGO := Lib.hid hgo
  simp only [sbGo, Bool.and_eq_true, decide_eq_true_eq] at hgo
  obtain ⟨h1, h2, h3⟩ := hgo
  have hq1 : (s.Busy != 0) = false := by simp [h1]
  have hq2 : decide (s.State.Index < s.Last + 4) = false := by simp; omega
  have hq3 : (s.Num == 1000000000) = false := by simp; omega
  have hq4 : decide (1000000000 ≤ s.Num) = false := by simp; omega
  have hwn : IntKind.i64.wrap (s.Num + 1) = s.Num + 1 := by rw [IntKind.wrap_i64]; omega
  clear h1 h2 hw4
  go_wp2_with fail
  rw [← HW4.out]
  clear CS3 FS3 LS3 CR3 FR3 LR3
  clear KS3 KR3
  refine (newestShot_k (HDD.out.ext E4)).mono ?_
  rintro e9 w5 ⟨_, rfl, hx5, u, rfl, F9, gs⟩
  obtain ⟨N, hN⟩ : ∃ N, N = newShot s.Disk := ⟨_, rfl⟩
  obtain ⟨A, hA⟩ : ∃ A, A = newAt s.Disk := ⟨_, rfl⟩
  have hat := newAt_is s.Disk
  rw [← hA] at hat ⊢
  obtain ⟨c3, q3, o3, c4, q4, o4, rfl⟩ := gs.rd.shape
  clear gs
  obtain ⟨w6, hW6⟩ : ∃ w6, w6 = w5.alloc (.cells #[.int .i64 (newShot s.Disk).Num, .int .i64 (newShot s.Disk).State.Index, .int .i64 (newShot s.Disk).State.Time, .slice c3 q3 o3, .slice c4 q4 o4, .int .i64 (newShot s.Disk).State.Lease.Holder, .int .i64 (newShot s.Disk).State.Lease.Epoch, .int .i64 (newShot s.Disk).State.Lease.Until] 102) := ⟨_, rfl⟩
  have X6 : Ext w4 w6 := by rw [hW6]; exact hx5.alloc _
  have HW6 := Lib.hid hW6
  have hz5 := hx5.size
  have hz6 := X6.size
  have E6 : Ext w w6 := E4.trans X6
  have KS5 := KS4.ext hx5; have KR5 := KR4.ext hx5; have KO5 := KO4.ext hx5
  have KS6 := KS4.ext X6; have KR6 := KR4.ext X6; have KO6 := KO4.ext X6
  have g6 := g4.ext X6
  clear hW6 hN
  cases hO : newOk s.Disk
  · have hsl : sbSlot s.Disk = 0 := by simp [sbSlot, hO]
    obtain ⟨SL, hSL⟩ : ∃ SL : Int, SL = 0 := ⟨_, rfl⟩
    have HSL := Lib.hid (hsl.trans hSL.symm)
    clear hsl hA hat
    have CS5 := KS5.cell; have FS5 := KS5.frozen; have LS5 := KS5.lt; have CR5 := KR5.cell; have FR5 := KR5.frozen; have LR5 := KR5.lt; have CO5 := KO5.cell; have FO5 := KO5.frozen; have LO5 := KO5.lt
    go_wp2_with fail
    rw [← HW6.out]
    clear KS5 KR5 KO5 CS5 FS5 LS5 CR5 FR5 LR5 CO5 FO5 LO5
    have CS6 := KS6.cell; have FS6 := KS6.frozen; have LS6 := KS6.lt; have CR6 := KR6.cell; have FR6 := KR6.frozen; have LR6 := KR6.lt; have CO6 := KO6.cell; have FO6 := KO6.frozen; have LO6 := KO6.lt
    rw [← hSL]
    clear hSL
    have hRS : RdShot w6 (.agg #[.int .i64 (s.Num + 1), .int .i64 s.State.Index, .int .i64 s.State.Time, .slice a4 n4 k4, .slice a5 n5 k5, .int .i64 s.State.Lease.Holder, .int .i64 s.State.Lease.Epoch, .int .i64 s.State.Lease.Until]) (sbShot s) := by
      obtain ⟨t4, t5, e5, h4, h5⟩ := HST.out.ext E6
      injection e5 with e5
      injection e5 with e5
      injection e5 with _ e5
      injection e5 with _ e5
      injection e5 with e54 e5
      injection e5 with e55 e5
      subst e54; subst e55
      exact ⟨_, _, rfl, h4, h5⟩
    have HRS := Lib.hid hRS
    clear hRS
    refine (shotWrote_k (HDD.out.ext E6) HRS.out SL).mono ?_
    rintro e9 w7 ⟨_, rfl, hx7, ud, rfl, F7, gd⟩
    obtain ⟨e0, f0, g0, e1, f1, g1, rfl⟩ := gd.rd.shape
    have hz7 := hx7.size
    obtain ⟨w8, hW8⟩ : ∃ w8, w8 = w7.alloc (.cells #[.slice e0 f0 g0, .slice e1 f1 g1] 56) := ⟨_, rfl⟩
    have X8 : Ext w6 w8 := by rw [hW8]; exact hx7.alloc _
    have KD8 : Blk w8 w7.heap.size 56 #[.slice e0 f0 g0, .slice e1 f1 g1] := by rw [hW8]; exact Blk.new _ _ _
    have gd := gd.ext (show Ext w7 w8 by rw [hW8]; exact (Ext.refl _).alloc _)
    have HW8 := Lib.hid hW8
    have hz8 := X8.size
    have hz8' := KD8.lt
    have E8 : Ext w w8 := E6.trans X8
    have KS7 := KS6.ext hx7; have KR7 := KR6.ext hx7; have KO7 := KO6.ext hx7
    have KS8 := KS6.ext X8; have KR8 := KR6.ext X8; have KO8 := KO6.ext X8
    have g8 := g6.ext X8
    clear hW8 CS6 FS6 LS6 CR6 FR6 LR6 CO6 FO6 LO6
    have CS7 := KS7.cell; have FS7 := KS7.frozen; have LS7 := KS7.lt; have CR7 := KR7.cell; have FR7 := KR7.frozen; have LR7 := KR7.lt; have CO7 := KO7.cell; have FO7 := KO7.frozen; have LO7 := KO7.lt
    cases hk : shOk s.Disk SL (sbShot s)
    · have e1 : sbOk s = false := by simp only [sbOk, HSL.out, hk]; simp
      have HA1 := Lib.hid e1
      have HA2 := Lib.hid (HNO.out e1)
      clear e1
      go_wp2_with fail
      refine bodyPost_ret (by simp [results, Tryz.results29, go_sem, CR7, FR7, LR7]; try rfl) rfl ?_
      refine ⟨_, rfl, by repeat' (first | (with_reducible exact Ext.refl _) | (with_reducible assumption) | (with_reducible refine Ext.drewN ?_ _) | (with_reducible refine Ext.drew ?_) | (with_reducible refine Ext.alloc ?_ _) | (with_reducible refine Ext.setCell ?_ ?_ _) | (with_reducible refine Ext.setRow ?_ ?_ _) | (with_reducible exact Nat.le_refl _) | (with_reducible refine Ext.trans ?_ (by assumption)) | omega), _, by (rw [HA1.out]; try rfl), ?_⟩
      rw [HA2.out]
      exact ⟨F3, (OwStore.keep (g6.ext hx7) (by repeat' (first | (with_reducible exact Chg.refl _ _) | (with_reducible refine Chg.drewN ?_ _) | (with_reducible refine Chg.drew ?_) | (with_reducible refine Chg.alloc ?_ _) | (with_reducible refine Chg.setLow ?_ (by omega) _) | (with_reducible refine Chg.setNew ?_ (by omega) _) | (with_reducible refine Chg.setRow ?_ (by omega) _) | (with_reducible refine Chg.ext ?_ (by assumption)) | omega))).mono (by omega)⟩

    have e1 : sbOk s = true := by simp only [sbOk, HSL.out, hk, HSO.out, HGO.out]; rfl
    have e2 : sbD s = ⟨shD s.Disk SL (sbShot s), s.State, s.Num, s.Last, s.State.Index⟩ := by simp only [sbD, HSO.out, e1, HSL.out]; rfl
    have HA1 := Lib.hid e1; have HA2 := Lib.hid e2
    clear e1 e2 hk
    go_wp2_with fail
    rw [← HW8.out]
    clear KS7 KR7 KO7 CS7 FS7 LS7 CR7 FR7 LR7 CO7 FO7 LO7
    have hn1 : w.heap.size ∉ [w3.heap.size] := by simp; omega
    have hn2 : w7.heap.size ∉ [w3.heap.size] := by simp; omega
    have yb2 : ∀ w', Upd w8 w' [w3.heap.size] → w'.cell? ⟨w.heap.size, 2, none⟩ = some (.int .i64 s.State.Index) := fun w' hw => (KS8.upd hw hn1).cell 2
    have yd0 : ∀ w', Upd w8 w' [w3.heap.size] → w'.cell? ⟨w7.heap.size, 0, none⟩ = some (.slice e0 f0 g0) := fun w' hw => (KD8.upd hw hn2).cell 0
    have yd1 : ∀ w', Upd w8 w' [w3.heap.size] → w'.cell? ⟨w7.heap.size, 1, none⟩ = some (.slice e1 f1 g1) := fun w' hw => (KD8.upd hw hn2).cell 1
    clear hn1 hn2
    have CO8 := KO8.cell; have FO8 := KO8.frozen; have LO8 := KO8.lt
    go_region_held3 (fun w' => Upd w8 w' [w3.heap.size]) (repeat' (first | (with_reducible exact Upd.refl _ _) | (with_reducible assumption) | (with_reducible refine Upd.drewd ?_) | (with_reducible refine Upd.setCell ?_ (List.mem_singleton.2 rfl) _))) (fail)
    clear yb2 yd0 yd1
    have CR8 := KR8.cell; have FR8 := KR8.frozen; have LR8 := KR8.lt
    have CH8 : Chg w2.heap.size w3 w8 := CH4.ext (X6.trans X8)
    go_wp2_with fail
    refine bodyPost_ret (by simp [results, Tryz.results29, go_sem, CR8, FR8, LR8]; try rfl) rfl ?_
    refine ⟨_, rfl, by repeat' (first | (with_reducible exact Ext.refl _) | (with_reducible assumption) | (with_reducible refine Ext.drewN ?_ _) | (with_reducible refine Ext.drew ?_) | (with_reducible refine Ext.alloc ?_ _) | (with_reducible refine Ext.setCell ?_ ?_ _) | (with_reducible refine Ext.setRow ?_ ?_ _) | (with_reducible exact Nat.le_refl _) | (with_reducible refine Ext.trans ?_ (by assumption)) | omega), _, by (rw [HA1.out]; try rfl), ?_⟩
    rw [HA2.out]
    exact OwStore.of (IsDisk.mono (IsDisk.keep gd.is (by repeat' (first | (with_reducible exact Chg.refl _ _) | (with_reducible refine Chg.drewN ?_ _) | (with_reducible refine Chg.drew ?_) | (with_reducible refine Chg.alloc ?_ _) | (with_reducible refine Chg.setLow ?_ (by omega) _) | (with_reducible refine Chg.setNew ?_ (by omega) _) | (with_reducible refine Chg.setRow ?_ (by omega) _) | (with_reducible refine Chg.ext ?_ (by assumption)) | omega))) (by omega)) ((OwnI.keep gp3 (by repeat' (first | (with_reducible exact CH8) | (with_reducible exact Chg.refl _ _) | (with_reducible refine Chg.drewN ?_ _) | (with_reducible refine Chg.drew ?_) | (with_reducible refine Chg.alloc ?_ _) | (with_reducible refine Chg.setLow ?_ (by omega) _) | (with_reducible refine Chg.setNew ?_ (by omega) _) | (with_reducible refine Chg.setRow ?_ (by omega) _) | (with_reducible refine Chg.ext ?_ (by assumption)) | omega))).mono (by omega)) ((OwnI.keep gj3 (by repeat' (first | (with_reducible exact CH8) | (with_reducible exact Chg.refl _ _) | (with_reducible refine Chg.drewN ?_ _) | (with_reducible refine Chg.drew ?_) | (with_reducible refine Chg.alloc ?_ _) | (with_reducible refine Chg.setLow ?_ (by omega) _) | (with_reducible refine Chg.setNew ?_ (by omega) _) | (with_reducible refine Chg.setRow ?_ (by omega) _) | (with_reducible refine Chg.ext ?_ (by assumption)) | omega))).mono (by omega))
  · have hsl : sbSlot s.Disk = 1 - A := by simp [sbSlot, hO, hA]
    obtain ⟨SL, hSL⟩ : ∃ SL : Int, SL = 1 - A := ⟨_, rfl⟩
    have HSL := Lib.hid (hsl.trans hSL.symm)
    have hsub : IntKind.i64.wrap SL = SL := by rw [IntKind.wrap_i64]; omega
    have hsub2 : (1 : Int) - A = SL := hSL.symm
    clear hsl hA hat hSL
    have CS5 := KS5.cell; have FS5 := KS5.frozen; have LS5 := KS5.lt; have CR5 := KR5.cell; have FR5 := KR5.frozen; have LR5 := KR5.lt; have CO5 := KO5.cell; have FO5 := KO5.frozen; have LO5 := KO5.lt
    go_wp2_with fail
    rw [← HW6.out]
    clear KS5 KR5 KO5 CS5 FS5 LS5 CR5 FR5 LR5 CO5 FO5 LO5
    have CS6 := KS6.cell; have FS6 := KS6.frozen; have LS6 := KS6.lt; have CR6 := KR6.cell; have FR6 := KR6.frozen; have LR6 := KR6.lt; have CO6 := KO6.cell; have FO6 := KO6.frozen; have LO6 := KO6.lt
    clear hsub hsub2
    have hRS : RdShot w6 (.agg #[.int .i64 (s.Num + 1), .int .i64 s.State.Index, .int .i64 s.State.Time, .slice a4 n4 k4, .slice a5 n5 k5, .int .i64 s.State.Lease.Holder, .int .i64 s.State.Lease.Epoch, .int .i64 s.State.Lease.Until]) (sbShot s) := by
      obtain ⟨t4, t5, e5, h4, h5⟩ := HST.out.ext E6
      injection e5 with e5
      injection e5 with e5
      injection e5 with _ e5
      injection e5 with _ e5
      injection e5 with e54 e5
      injection e5 with e55 e5
      subst e54; subst e55
      exact ⟨_, _, rfl, h4, h5⟩
    have HRS := Lib.hid hRS
    clear hRS
    refine (shotWrote_k (HDD.out.ext E6) HRS.out SL).mono ?_
    rintro e9 w7 ⟨_, rfl, hx7, ud, rfl, F7, gd⟩
    obtain ⟨e0, f0, g0, e1, f1, g1, rfl⟩ := gd.rd.shape
    have hz7 := hx7.size
    obtain ⟨w8, hW8⟩ : ∃ w8, w8 = w7.alloc (.cells #[.slice e0 f0 g0, .slice e1 f1 g1] 56) := ⟨_, rfl⟩
    have X8 : Ext w6 w8 := by rw [hW8]; exact hx7.alloc _
    have KD8 : Blk w8 w7.heap.size 56 #[.slice e0 f0 g0, .slice e1 f1 g1] := by rw [hW8]; exact Blk.new _ _ _
    have gd := gd.ext (show Ext w7 w8 by rw [hW8]; exact (Ext.refl _).alloc _)
    have HW8 := Lib.hid hW8
    have hz8 := X8.size
    have hz8' := KD8.lt
    have E8 : Ext w w8 := E6.trans X8
    have KS7 := KS6.ext hx7; have KR7 := KR6.ext hx7; have KO7 := KO6.ext hx7
    have KS8 := KS6.ext X8; have KR8 := KR6.ext X8; have KO8 := KO6.ext X8
    have g8 := g6.ext X8
    clear hW8 CS6 FS6 LS6 CR6 FR6 LR6 CO6 FO6 LO6
    have CS7 := KS7.cell; have FS7 := KS7.frozen; have LS7 := KS7.lt; have CR7 := KR7.cell; have FR7 := KR7.frozen; have LR7 := KR7.lt; have CO7 := KO7.cell; have FO7 := KO7.frozen; have LO7 := KO7.lt
    cases hk : shOk s.Disk SL (sbShot s)
    · have e1 : sbOk s = false := by simp only [sbOk, HSL.out, hk]; simp
      have HA1 := Lib.hid e1
      have HA2 := Lib.hid (HNO.out e1)
      clear e1
      go_wp2_with fail
      refine bodyPost_ret (by simp [results, Tryz.results29, go_sem, CR7, FR7, LR7]; try rfl) rfl ?_
      refine ⟨_, rfl, by repeat' (first | (with_reducible exact Ext.refl _) | (with_reducible assumption) | (with_reducible refine Ext.drewN ?_ _) | (with_reducible refine Ext.drew ?_) | (with_reducible refine Ext.alloc ?_ _) | (with_reducible refine Ext.setCell ?_ ?_ _) | (with_reducible refine Ext.setRow ?_ ?_ _) | (with_reducible exact Nat.le_refl _) | (with_reducible refine Ext.trans ?_ (by assumption)) | omega), _, by (rw [HA1.out]; try rfl), ?_⟩
      rw [HA2.out]
      exact ⟨F3, (OwStore.keep (g6.ext hx7) (by repeat' (first | (with_reducible exact Chg.refl _ _) | (with_reducible refine Chg.drewN ?_ _) | (with_reducible refine Chg.drew ?_) | (with_reducible refine Chg.alloc ?_ _) | (with_reducible refine Chg.setLow ?_ (by omega) _) | (with_reducible refine Chg.setNew ?_ (by omega) _) | (with_reducible refine Chg.setRow ?_ (by omega) _) | (with_reducible refine Chg.ext ?_ (by assumption)) | omega))).mono (by omega)⟩

    have e1 : sbOk s = true := by simp only [sbOk, HSL.out, hk, HSO.out, HGO.out]; rfl
    have e2 : sbD s = ⟨shD s.Disk SL (sbShot s), s.State, s.Num, s.Last, s.State.Index⟩ := by simp only [sbD, HSO.out, e1, HSL.out]; rfl
    have HA1 := Lib.hid e1; have HA2 := Lib.hid e2
    clear e1 e2 hk
    go_wp2_with fail
    rw [← HW8.out]
    clear KS7 KR7 KO7 CS7 FS7 LS7 CR7 FR7 LR7 CO7 FO7 LO7
    have hn1 : w.heap.size ∉ [w3.heap.size] := by simp; omega
    have hn2 : w7.heap.size ∉ [w3.heap.size] := by simp; omega
    have yb2 : ∀ w', Upd w8 w' [w3.heap.size] → w'.cell? ⟨w.heap.size, 2, none⟩ = some (.int .i64 s.State.Index) := fun w' hw => (KS8.upd hw hn1).cell 2
    have yd0 : ∀ w', Upd w8 w' [w3.heap.size] → w'.cell? ⟨w7.heap.size, 0, none⟩ = some (.slice e0 f0 g0) := fun w' hw => (KD8.upd hw hn2).cell 0
    have yd1 : ∀ w', Upd w8 w' [w3.heap.size] → w'.cell? ⟨w7.heap.size, 1, none⟩ = some (.slice e1 f1 g1) := fun w' hw => (KD8.upd hw hn2).cell 1
    clear hn1 hn2
    have CO8 := KO8.cell; have FO8 := KO8.frozen; have LO8 := KO8.lt
    go_region_held3 (fun w' => Upd w8 w' [w3.heap.size]) (repeat' (first | (with_reducible exact Upd.refl _ _) | (with_reducible assumption) | (with_reducible refine Upd.drewd ?_) | (with_reducible refine Upd.setCell ?_ (List.mem_singleton.2 rfl) _))) (fail)
    clear yb2 yd0 yd1
    have CR8 := KR8.cell; have FR8 := KR8.frozen; have LR8 := KR8.lt
    have CH8 : Chg w2.heap.size w3 w8 := CH4.ext (X6.trans X8)
    go_wp2_with fail
    refine bodyPost_ret (by simp [results, Tryz.results29, go_sem, CR8, FR8, LR8]; try rfl) rfl ?_
    refine ⟨_, rfl, by repeat' (first | (with_reducible exact Ext.refl _) | (with_reducible assumption) | (with_reducible refine Ext.drewN ?_ _) | (with_reducible refine Ext.drew ?_) | (with_reducible refine Ext.alloc ?_ _) | (with_reducible refine Ext.setCell ?_ ?_ _) | (with_reducible refine Ext.setRow ?_ ?_ _) | (with_reducible exact Nat.le_refl _) | (with_reducible refine Ext.trans ?_ (by assumption)) | omega), _, by (rw [HA1.out]; try rfl), ?_⟩
    rw [HA2.out]
    exact OwStore.of (IsDisk.mono (IsDisk.keep gd.is (by repeat' (first | (with_reducible exact Chg.refl _ _) | (with_reducible refine Chg.drewN ?_ _) | (with_reducible refine Chg.drew ?_) | (with_reducible refine Chg.alloc ?_ _) | (with_reducible refine Chg.setLow ?_ (by omega) _) | (with_reducible refine Chg.setNew ?_ (by omega) _) | (with_reducible refine Chg.setRow ?_ (by omega) _) | (with_reducible refine Chg.ext ?_ (by assumption)) | omega))) (by omega)) ((OwnI.keep gp3 (by repeat' (first | (with_reducible exact CH8) | (with_reducible exact Chg.refl _ _) | (with_reducible refine Chg.drewN ?_ _) | (with_reducible refine Chg.drew ?_) | (with_reducible refine Chg.alloc ?_ _) | (with_reducible refine Chg.setLow ?_ (by omega) _) | (with_reducible refine Chg.setNew ?_ (by omega) _) | (with_reducible refine Chg.setRow ?_ (by omega) _) | (with_reducible refine Chg.ext ?_ (by assumption)) | omega))).mono (by omega)) ((OwnI.keep gj3 (by repeat' (first | (with_reducible exact CH8) | (with_reducible exact Chg.refl _ _) | (with_reducible refine Chg.drewN ?_ _) | (with_reducible refine Chg.drew ?_) | (with_reducible refine Chg.alloc ?_ _) | (with_reducible refine Chg.setLow ?_ (by omega) _) | (with_reducible refine Chg.setNew ?_ (by omega) _) | (with_reducible refine Chg.setRow ?_ (by omega) _) | (with_reducible refine Chg.ext ?_ (by assumption)) | omega))).mono (by omega))

end Go.Proofs.YthdiaijiokoifaaGreat

-- ShotBegun of the reference.
set_option linter.unusedSimpArgs false
set_option linter.unusedVariables false
namespace Go.Proofs.YthdiaijiokoifaaGreat
open Go.RowKit Go.G8

theorem RdShot.of4 {w : World} {s : DStore} {t4 t5 : Value} (h4 : Ints 2 w t4 (flPair s.State.Pairs)) (h5 : Ints 5 w t5 (flJob s.State.Jobs)) : RdShot w (.agg #[.int .i64 (s.Num + 1), .int .i64 s.State.Index, .int .i64 s.State.Time, t4, t5, .int .i64 s.State.Lease.Holder, .int .i64 s.State.Lease.Epoch, .int .i64 s.State.Lease.Until]) (sbShot s) := ⟨_, _, rfl, h4, h5⟩
set_option maxHeartbeats 4000000 in
set_option maxRecDepth 100000 in
theorem sShotBegun_k {w : World} {v : Value} {s : DStore} (h : RdStore w v s) : Calls Tryz.prog 28 #[v] w (Ret w fun r w' => ∃ u, r = .tuple #[u, .bool (sbOk s)] ∧ ∃ F, OwStore w.heap.size w' u (sbD s) F) := by
  have HS := Lib.hid h
  obtain ⟨a0, n0, k0, a1, n1, k1, a4, n4, k4, a5, n5, k5, rfl⟩ := h.shape
  have HDD := Lib.hid h.disk.1
  have HST := Lib.hid h.disk.2
  clear h
  obtain ⟨W1, hW1⟩ : ∃ W1, W1 = (w.alloc (.cells #[.slice a0 n0 k0, .slice a1 n1 k1, .int .i64 s.State.Index, .int .i64 s.State.Time, .slice a4 n4 k4, .slice a5 n5 k5, .int .i64 s.State.Lease.Holder, .int .i64 s.State.Lease.Epoch, .int .i64 s.State.Lease.Until, .int .i64 s.Num, .int .i64 s.Last, .int .i64 s.Busy] 58)).alloc (.cells #[.slice none 0 0, .slice none 0 0, .int .i64 0, .int .i64 0, .slice none 0 0, .slice none 0 0, .int .i64 0, .int .i64 0, .int .i64 0, .int .i64 0, .int .i64 0, .int .i64 0] 58) := ⟨_, rfl⟩
  have E1 : Ext w W1 := by rw [hW1]; exact ((Ext.refl _).alloc _).alloc _
  have KS1 : Blk W1 w.heap.size 58 #[.slice a0 n0 k0, .slice a1 n1 k1, .int .i64 s.State.Index, .int .i64 s.State.Time, .slice a4 n4 k4, .slice a5 n5 k5, .int .i64 s.State.Lease.Holder, .int .i64 s.State.Lease.Epoch, .int .i64 s.State.Lease.Until, .int .i64 s.Num, .int .i64 s.Last, .int .i64 s.Busy] := by rw [hW1]; exact (Blk.new _ _ _).alloc _
  have KR1 : Blk W1 (w.heap.size + 1) 58 #[.slice none 0 0, .slice none 0 0, .int .i64 0, .int .i64 0, .slice none 0 0, .slice none 0 0, .int .i64 0, .int .i64 0, .int .i64 0, .int .i64 0, .int .i64 0, .int .i64 0] := by rw [hW1]; exact Blk.new2 _ _ _ _
  have hz1 : w.heap.size + 1 < W1.heap.size := by rw [hW1]; simp
  have HW1 := Lib.hid hW1
  clear hW1
  go_enter Tryz.func28, Tryz.ntmps28
  go_wp2_with fail
  rw [← HW1.out]
  have CS1 := KS1.cell; have FS1 := KS1.frozen; have LS1 := KS1.lt; have CR1 := KR1.cell; have FR1 := KR1.frozen; have LR1 := KR1.lt
  go_wp2_with fail
  refine (sStoreOk_r (HS.out.ext E1)).mono ?_
  rintro e9 w2 ⟨rfl, hx2⟩
  have E2 : Ext w w2 := E1.trans hx2
  have hz2 := hx2.size
  have KS2 := KS1.ext hx2; have KR2 := KR1.ext hx2
  clear CS1 FS1 LS1 CR1 FR1 LR1
  have CS2 := KS2.cell; have FS2 := KS2.frozen; have LS2 := KS2.lt; have CR2 := KR2.cell; have FR2 := KR2.frozen; have LR2 := KR2.lt
  cases hso : storeOk s
  · have e1 : sbOk s = false := by simp [sbOk, hso]
    have e2 : sbD s = ⟨⟨[], []⟩, ⟨0, 0, [], [], ⟨0, 0, 0⟩⟩, 0, 0, 0⟩ := by simp [sbD, hso]
    have HA1 := Lib.hid e1; have HA2 := Lib.hid e2
    clear e1 e2
    go_wp2_with fail
    refine bodyPost_ret (by simp [results, Tryz.results28, go_sem, CR2, FR2, LR2]; try rfl) rfl ?_
    refine ⟨_, rfl, by repeat' (first | (with_reducible exact Ext.refl _) | (with_reducible assumption) | (with_reducible refine Ext.drewN ?_ _) | (with_reducible refine Ext.drew ?_) | (with_reducible refine Ext.alloc ?_ _) | (with_reducible refine Ext.setCell ?_ ?_ _) | (with_reducible refine Ext.setRow ?_ ?_ _) | (with_reducible exact Nat.le_refl _) | (with_reducible refine Ext.trans ?_ (by assumption)) | omega), _, by (rw [HA1.out]; try rfl), ?_⟩
    rw [HA2.out]
    exact OwStore.of (IsDisk.nil _ _) (OwnI.nil _ _ _ _) (OwnI.nil _ _ _ _)

  have HSO := Lib.hid hso
  have hbd := storeOk_bounds hso
  have hdk := storeOk_disk hso
  obtain ⟨p1, p2, p3, p4, p5⟩ := hbd
  have HDK := Lib.hid hdk
  have HNO : Hid (sbOk s = false → sbD s = s) := Lib.hid (fun h => by simp [sbD, hso, h])
  clear hso hdk
  go_wp2_with fail
  refine (l19Copy_k (HS.out.ext E2) (diskOk_small HDK.out) (stateOk_small (storeOk_state HSO.out))).mono ?_
  rintro e9 w3 ⟨_, rfl, hx3, F3, g3⟩
  obtain ⟨b0, m0, j0, b1, m1, j1, b4, m4, j4, b5, m5, j5, rfl⟩ := g3.rd.shape
  have hz3 := hx3.size
  obtain ⟨w4, hW4⟩ : ∃ w4, w4 = w3.alloc (.cells #[.slice b0 m0 j0, .slice b1 m1 j1, .int .i64 s.State.Index, .int .i64 s.State.Time, .slice b4 m4 j4, .slice b5 m5 j5, .int .i64 s.State.Lease.Holder, .int .i64 s.State.Lease.Epoch, .int .i64 s.State.Lease.Until, .int .i64 s.Num, .int .i64 s.Last, .int .i64 s.Busy] 58) := ⟨_, rfl⟩
  have X4 : Ext w2 w4 := by rw [hW4]; exact hx3.alloc _
  have KO4 : Blk w4 w3.heap.size 58 #[.slice b0 m0 j0, .slice b1 m1 j1, .int .i64 s.State.Index, .int .i64 s.State.Time, .slice b4 m4 j4, .slice b5 m5 j5, .int .i64 s.State.Lease.Holder, .int .i64 s.State.Lease.Epoch, .int .i64 s.State.Lease.Until, .int .i64 s.Num, .int .i64 s.Last, .int .i64 s.Busy] := by rw [hW4]; exact Blk.new _ _ _
  have g4 : OwStore w2.heap.size w4 (.agg #[.slice b0 m0 j0, .slice b1 m1 j1, .int .i64 s.State.Index, .int .i64 s.State.Time, .slice b4 m4 j4, .slice b5 m5 j5, .int .i64 s.State.Lease.Holder, .int .i64 s.State.Lease.Epoch, .int .i64 s.State.Lease.Until, .int .i64 s.Num, .int .i64 s.Last, .int .i64 s.Busy]) s F3 := g3.ext (by rw [hW4]; exact (Ext.refl _).alloc _)
  have HW4 := Lib.hid hW4
  have hz4 : w4.heap.size = w3.heap.size + 1 := by rw [hW4]; simp
  have hz4' : w3.heap.size < w4.heap.size := by omega
  have HZ4 := Lib.hid hz4
  have E4 : Ext w w4 := E2.trans X4
  have KS3 := KS2.ext hx3; have KR3 := KR2.ext hx3
  have KS4 := KS2.ext X4; have KR4 := KR2.ext X4
  have CH4 : Chg w2.heap.size w3 w4 := by rw [HW4.out]; exact (Chg.refl _ _).alloc _
  have hst3 := g3.state
  obtain ⟨gp3, gj3⟩ := hst3
  clear hW4 hz4 CS2 FS2 LS2 CR2 FR2 LR2
  have CS3 := KS3.cell; have FS3 := KS3.frozen; have LS3 := KS3.lt; have CR3 := KR3.cell; have FR3 := KR3.frozen; have LR3 := KR3.lt
  have hw4 : IntKind.i64.wrap (s.Last + 4) = s.Last + 4 := by rw [IntKind.wrap_i64]; omega
  cases hgo : sbGo s
  · have e1 : sbOk s = false := by simp [sbOk, hgo]
    have HA1 := Lib.hid e1
    have HA2 := Lib.hid (HNO.out e1)
    have hq : (s.Busy != 0) = true ∨ ((s.Busy != 0) = false ∧ decide (s.State.Index < s.Last + 4) = true) ∨ ((s.Busy != 0) = false ∧ decide (s.State.Index < s.Last + 4) = false ∧ s.Num = 1000000000) := by
      simp only [sbGo, Bool.and_eq_false_iff, decide_eq_false_iff_not] at hgo
      by_cases h1 : s.Busy = 0
      · by_cases h2 : s.State.Index < s.Last + 4
        · exact .inr (.inl ⟨by simp [h1], by simp [h2]⟩)
        · refine .inr (.inr ⟨by simp [h1], by simp [h2], ?_⟩)
          rcases hgo with h | h | h
          · exact absurd h1 h
          · omega
          · omega
      · exact .inl (by simp [h1])
    clear e1 hgo
    rcases hq with hq | ⟨hq, hq2⟩ | ⟨hq, hq2, hq3⟩
    rotate_right
    · have hq4 : (s.Num == 1000000000) = true := by simp [hq3]
      have hq5 : decide (1000000000 ≤ s.Num) = true := by simp; omega
      clear hq3
      go_wp2_with fail
      refine bodyPost_ret (by simp [results, Tryz.results28, go_sem, CR3, FR3, LR3]; try rfl) rfl ?_
      refine ⟨_, rfl, by repeat' (first | (with_reducible exact Ext.refl _) | (with_reducible assumption) | (with_reducible refine Ext.drewN ?_ _) | (with_reducible refine Ext.drew ?_) | (with_reducible refine Ext.alloc ?_ _) | (with_reducible refine Ext.setCell ?_ ?_ _) | (with_reducible refine Ext.setRow ?_ ?_ _) | (with_reducible exact Nat.le_refl _) | (with_reducible refine Ext.trans ?_ (by assumption)) | omega), _, by (rw [HA1.out]; try rfl), ?_⟩
      rw [HA2.out]
      exact ⟨F3, (OwStore.keep g3 (by repeat' (first | (with_reducible exact Chg.refl _ _) | (with_reducible refine Chg.drewN ?_ _) | (with_reducible refine Chg.drew ?_) | (with_reducible refine Chg.alloc ?_ _) | (with_reducible refine Chg.setLow ?_ (by omega) _) | (with_reducible refine Chg.setNew ?_ (by omega) _) | (with_reducible refine Chg.setRow ?_ (by omega) _) | (with_reducible refine Chg.ext ?_ (by assumption)) | omega))).mono (by omega)⟩

    all_goals
      go_wp2_with fail
      refine bodyPost_ret (by simp [results, Tryz.results28, go_sem, CR3, FR3, LR3]; try rfl) rfl ?_
      refine ⟨_, rfl, by repeat' (first | (with_reducible exact Ext.refl _) | (with_reducible assumption) | (with_reducible refine Ext.drewN ?_ _) | (with_reducible refine Ext.drew ?_) | (with_reducible refine Ext.alloc ?_ _) | (with_reducible refine Ext.setCell ?_ ?_ _) | (with_reducible refine Ext.setRow ?_ ?_ _) | (with_reducible exact Nat.le_refl _) | (with_reducible refine Ext.trans ?_ (by assumption)) | omega), _, by (rw [HA1.out]; try rfl), ?_⟩
      rw [HA2.out]
      exact ⟨F3, (OwStore.keep g3 (by repeat' (first | (with_reducible exact Chg.refl _ _) | (with_reducible refine Chg.drewN ?_ _) | (with_reducible refine Chg.drew ?_) | (with_reducible refine Chg.alloc ?_ _) | (with_reducible refine Chg.setLow ?_ (by omega) _) | (with_reducible refine Chg.setNew ?_ (by omega) _) | (with_reducible refine Chg.setRow ?_ (by omega) _) | (with_reducible refine Chg.ext ?_ (by assumption)) | omega))).mono (by omega)⟩

  have HGO := Lib.hid hgo
  simp only [sbGo, Bool.and_eq_true, decide_eq_true_eq] at hgo
  obtain ⟨h1, h2, h3⟩ := hgo
  have hq1 : (s.Busy != 0) = false := by simp [h1]
  have hq2 : decide (s.State.Index < s.Last + 4) = false := by simp; omega
  have hq3 : (s.Num == 1000000000) = false := by simp; omega
  have hq4 : decide (1000000000 ≤ s.Num) = false := by simp; omega
  have hwn : IntKind.i64.wrap (s.Num + 1) = s.Num + 1 := by rw [IntKind.wrap_i64]; omega
  clear h1 h2 hw4
  go_wp2_with fail
  rw [← HW4.out]
  clear CS3 FS3 LS3 CR3 FR3 LR3
  clear KS3 KR3
  refine (sNewestShot_k (HDD.out.ext E4)).mono ?_
  rintro e9 w5 ⟨_, rfl, hx5, u, rfl, F9, gs⟩
  obtain ⟨N, hN⟩ : ∃ N, N = newShot s.Disk := ⟨_, rfl⟩
  obtain ⟨A, hA⟩ : ∃ A, A = newAt s.Disk := ⟨_, rfl⟩
  have hat := newAt_is s.Disk
  rw [← hA] at hat ⊢
  obtain ⟨c3, q3, o3, c4, q4, o4, rfl⟩ := gs.rd.shape
  clear gs
  obtain ⟨w6, hW6⟩ : ∃ w6, w6 = w5.alloc (.cells #[.int .i64 (newShot s.Disk).Num, .int .i64 (newShot s.Disk).State.Index, .int .i64 (newShot s.Disk).State.Time, .slice c3 q3 o3, .slice c4 q4 o4, .int .i64 (newShot s.Disk).State.Lease.Holder, .int .i64 (newShot s.Disk).State.Lease.Epoch, .int .i64 (newShot s.Disk).State.Lease.Until] 102) := ⟨_, rfl⟩
  have X6 : Ext w4 w6 := by rw [hW6]; exact hx5.alloc _
  have HW6 := Lib.hid hW6
  have hz5 := hx5.size
  have hz6 := X6.size
  have E6 : Ext w w6 := E4.trans X6
  have KS5 := KS4.ext hx5; have KR5 := KR4.ext hx5; have KO5 := KO4.ext hx5
  have KS6 := KS4.ext X6; have KR6 := KR4.ext X6; have KO6 := KO4.ext X6
  have g6 := g4.ext X6
  clear hW6 hN
  cases hO : newOk s.Disk
  · have hsl : sbSlot s.Disk = 0 := by simp [sbSlot, hO]
    obtain ⟨SL, hSL⟩ : ∃ SL : Int, SL = 0 := ⟨_, rfl⟩
    have HSL := Lib.hid (hsl.trans hSL.symm)
    clear hsl hA hat
    have CS5 := KS5.cell; have FS5 := KS5.frozen; have LS5 := KS5.lt; have CR5 := KR5.cell; have FR5 := KR5.frozen; have LR5 := KR5.lt; have CO5 := KO5.cell; have FO5 := KO5.frozen; have LO5 := KO5.lt
    go_wp2_with fail
    rw [← HW6.out]
    clear KS5 KR5 KO5 CS5 FS5 LS5 CR5 FR5 LR5 CO5 FO5 LO5
    have CS6 := KS6.cell; have FS6 := KS6.frozen; have LS6 := KS6.lt; have CR6 := KR6.cell; have FR6 := KR6.frozen; have LR6 := KR6.lt; have CO6 := KO6.cell; have FO6 := KO6.frozen; have LO6 := KO6.lt
    rw [← hSL]
    clear hSL
    have ya0 : ∀ w', Ext w6 w' → w'.cell? ⟨w.heap.size, 0, none⟩ = some (.slice a0 n0 k0) := fun w' hw => (KS6.ext hw).cell 0
    have ya1 : ∀ w', Ext w6 w' → w'.cell? ⟨w.heap.size, 1, none⟩ = some (.slice a1 n1 k1) := fun w' hw => (KS6.ext hw).cell 1
    have ya2 : ∀ w', Ext w6 w' → w'.cell? ⟨w.heap.size, 2, none⟩ = some (.int .i64 s.State.Index) := fun w' hw => (KS6.ext hw).cell 2
    have ya3 : ∀ w', Ext w6 w' → w'.cell? ⟨w.heap.size, 3, none⟩ = some (.int .i64 s.State.Time) := fun w' hw => (KS6.ext hw).cell 3
    have ya4 : ∀ w', Ext w6 w' → w'.cell? ⟨w.heap.size, 4, none⟩ = some (.slice a4 n4 k4) := fun w' hw => (KS6.ext hw).cell 4
    have ya5 : ∀ w', Ext w6 w' → w'.cell? ⟨w.heap.size, 5, none⟩ = some (.slice a5 n5 k5) := fun w' hw => (KS6.ext hw).cell 5
    have ya6 : ∀ w', Ext w6 w' → w'.cell? ⟨w.heap.size, 6, none⟩ = some (.int .i64 s.State.Lease.Holder) := fun w' hw => (KS6.ext hw).cell 6
    have ya7 : ∀ w', Ext w6 w' → w'.cell? ⟨w.heap.size, 7, none⟩ = some (.int .i64 s.State.Lease.Epoch) := fun w' hw => (KS6.ext hw).cell 7
    have ya8 : ∀ w', Ext w6 w' → w'.cell? ⟨w.heap.size, 8, none⟩ = some (.int .i64 s.State.Lease.Until) := fun w' hw => (KS6.ext hw).cell 8
    have ya9 : ∀ w', Ext w6 w' → w'.cell? ⟨w.heap.size, 9, none⟩ = some (.int .i64 s.Num) := fun w' hw => (KS6.ext hw).cell 9
    clear CS6 FS6 LS6 CR6 FR6 LR6 CO6 FO6 LO6
    go_cut [9, 10] (fun sx bx wx => ∃ gg e0 f0 g0 e1 f1 g1, sx = .pointer (some ⟨gg, 0, none⟩) ∧ bx = .bool (shOk s.Disk SL (sbShot s)) ∧ Ext w6 wx ∧ w6.heap.size ≤ gg ∧ Blk wx gg 56 #[.slice e0 f0 g0, .slice e1 f1 g1] ∧ ∃ F7, OwDisk w6.heap.size wx (.agg #[.slice e0 f0 g0, .slice e1 f1 g1]) (shD s.Disk SL (sbShot s)) F7)
    case first =>
      go_region_held3 (fun w' => Ext w6 w') (repeat' (first | (with_reducible exact Ext.refl _) | (with_reducible assumption) | (with_reducible refine Ext.drewN ?_ _) | (with_reducible refine Ext.drew ?_) | (with_reducible refine Ext.alloc ?_ _) | (with_reducible refine Ext.setCell ?_ ?_ _) | (with_reducible refine Ext.setRow ?_ ?_ _) | (with_reducible exact Nat.le_refl _) | (with_reducible refine Ext.trans ?_ (by assumption)) | omega)) (first | (go_at_call 39; refine (l17Copy_k (HST.out.ext (E6.trans (by repeat' (first | (with_reducible exact Ext.refl _) | (with_reducible refine Ext.drewN ?_ _) | (with_reducible refine Ext.drew ?_) | (with_reducible refine Ext.alloc ?_ _) | (with_reducible refine Ext.setCell ?_ ?_ _) | (with_reducible refine Ext.trans ?_ hxb) | (with_reducible refine Ext.trans ?_ hxa) | (with_reducible assumption) | omega)))) (stateOk_small (storeOk_state HSO.out))).mono ?_; rintro e9 wa ⟨_, rfl, hxa, r2, r3, rfl, gp, gj⟩; obtain ⟨r4, rn4, rc4, rfl⟩ := gp.shape; obtain ⟨r5, rn5, rc5, rfl⟩ := gj.shape; have hzhxa := hxa.size; obtain ⟨hchxa, hdhxa⟩ := hxa.cells; (try simp only [World.size_alloc, size_drew] at hzhxa hchxa hdhxa); (try have hqhxaw6 : w6.heap.size < wa.heap.size := (by omega))) | (go_at_call 74; refine (sShotWrote_k (s := sbShot s) (u := .agg #[.int .i64 (s.Num + 1), .int .i64 s.State.Index, .int .i64 s.State.Time, .slice r4 rn4 rc4, .slice r5 rn5 rc5, .int .i64 s.State.Lease.Holder, .int .i64 s.State.Lease.Epoch, .int .i64 s.State.Lease.Until]) (HDD.out.ext (E6.trans (by repeat' (first | (with_reducible exact Ext.refl _) | (with_reducible refine Ext.drewN ?_ _) | (with_reducible refine Ext.drew ?_) | (with_reducible refine Ext.alloc ?_ _) | (with_reducible refine Ext.setCell ?_ ?_ _) | (with_reducible refine Ext.trans ?_ hxb) | (with_reducible refine Ext.trans ?_ hxa) | (with_reducible assumption) | omega)))) (RdShot.of4 ((OwnI.ints gp).ext (by repeat' (first | (with_reducible exact Ext.refl _) | (with_reducible refine Ext.drewN ?_ _) | (with_reducible refine Ext.drew ?_) | (with_reducible refine Ext.alloc ?_ _) | (with_reducible refine Ext.setCell ?_ ?_ _) | (with_reducible refine Ext.trans ?_ hxb) | (with_reducible refine Ext.trans ?_ hxa) | (with_reducible assumption) | omega))) ((OwnI.ints gj).ext (by repeat' (first | (with_reducible exact Ext.refl _) | (with_reducible refine Ext.drewN ?_ _) | (with_reducible refine Ext.drew ?_) | (with_reducible refine Ext.alloc ?_ _) | (with_reducible refine Ext.setCell ?_ ?_ _) | (with_reducible refine Ext.trans ?_ hxb) | (with_reducible refine Ext.trans ?_ hxa) | (with_reducible assumption) | omega)))) SL).mono ?_; rintro e9 wb ⟨_, rfl, hxb, ud, rfl, F7, gd⟩; obtain ⟨e0, f0, g0, e1, f1, g1, rfl⟩ := gd.rd.shape; have hzhxb := hxb.size; obtain ⟨hchxb, hdhxb⟩ := hxb.cells; (try simp only [World.size_alloc, size_drew] at hzhxb hchxb hdhxb); (try have hqhxbw6 : w6.heap.size < wb.heap.size := (by omega)); (try have hqhxbwa : wa.heap.size < wb.heap.size := (by omega))))
      all_goals clear ya0 ya1 ya2 ya3 ya4 ya5 ya6 ya7 ya8 ya9 hchxa hdhxa hchxb hdhxb
      all_goals go_wp2_with fail
      all_goals go_meet
      all_goals case rel =>
        (try simp only [World.size_alloc, size_drew] at *)
        exact ⟨_, _, _, _, _, _, _, rfl, by first | rfl | trivial, by repeat' (first | (with_reducible exact Ext.refl _) | (with_reducible assumption) | (with_reducible refine Ext.drewN ?_ _) | (with_reducible refine Ext.drew ?_) | (with_reducible refine Ext.alloc ?_ _) | (with_reducible refine Ext.setCell ?_ ?_ _) | (with_reducible refine Ext.setRow ?_ ?_ _) | (with_reducible exact Nat.le_refl _) | (with_reducible refine Ext.trans ?_ (by assumption)) | omega), by omega, (Blk.cast (by repeat' (first | (with_reducible assumption) | (with_reducible exact Blk.new _ _ _) | (with_reducible exact Blk.new2 _ _ _ _) | (with_reducible (apply Blk.ext; rotate_left; exact hxb)) | (with_reducible (apply Blk.ext; rotate_left; exact hxa)) | (with_reducible apply Blk.drew) | (with_reducible apply Blk.drewN) | (with_reducible apply Blk.alloc) | (with_reducible apply Blk.set_) | (with_reducible apply Blk.row) | (with_reducible apply Blk.far) | (with_reducible apply Blk.rowFar) | omega | (simp; omega))) (by simp)), F7, OwDisk.keep gd (by repeat' (first | (with_reducible exact Chg.refl _ _) | (with_reducible refine Chg.drewN ?_ _) | (with_reducible refine Chg.drew ?_) | (with_reducible refine Chg.alloc ?_ _) | (with_reducible refine Chg.setLow ?_ (by omega) _) | (with_reducible refine Chg.setNew ?_ (by omega) _) | (with_reducible refine Chg.setRow ?_ (by omega) _) | (with_reducible refine Chg.ext ?_ (by assumption)) | omega)) (by omega)⟩
    case rest =>
      revert wc; intro w7 hcut
      obtain ⟨gg, e0, f0, g0, e1, f1, g1, rfl, rfl, X7, hge7, KD7, F7, gd⟩ := hcut
      clear ya0 ya1 ya2 ya3 ya4 ya5 ya6 ya7 ya8 ya9
      have KS7 := KS6.ext X7; have KR7 := KR6.ext X7; have KO7 := KO6.ext X7
      have hz7 := X7.size
      have E7 := E6.trans X7
      have CS7 := KS7.cell; have FS7 := KS7.frozen; have LS7 := KS7.lt; have CR7 := KR7.cell; have FR7 := KR7.frozen; have LR7 := KR7.lt; have CO7 := KO7.cell; have FO7 := KO7.frozen; have LO7 := KO7.lt; have CD7 := KD7.cell; have FD7 := KD7.frozen; have LD7 := KD7.lt
      cases hk : shOk s.Disk SL (sbShot s)
      · have e1 : sbOk s = false := by simp only [sbOk, HSL.out, hk]; simp
        have HA1 := Lib.hid e1
        have HA2 := Lib.hid (HNO.out e1)
        clear e1
        go_wp2_with fail
        refine bodyPost_ret (by simp [results, Tryz.results28, go_sem, CR7, FR7, LR7]; try rfl) rfl ?_
        refine ⟨_, rfl, by repeat' (first | (with_reducible exact Ext.refl _) | (with_reducible assumption) | (with_reducible refine Ext.drewN ?_ _) | (with_reducible refine Ext.drew ?_) | (with_reducible refine Ext.alloc ?_ _) | (with_reducible refine Ext.setCell ?_ ?_ _) | (with_reducible refine Ext.setRow ?_ ?_ _) | (with_reducible exact Nat.le_refl _) | (with_reducible refine Ext.trans ?_ (by assumption)) | omega), _, by (rw [HA1.out]; try rfl), ?_⟩
        rw [HA2.out]
        exact ⟨F3, (OwStore.keep (g6.ext X7) (by repeat' (first | (with_reducible exact Chg.refl _ _) | (with_reducible refine Chg.drewN ?_ _) | (with_reducible refine Chg.drew ?_) | (with_reducible refine Chg.alloc ?_ _) | (with_reducible refine Chg.setLow ?_ (by omega) _) | (with_reducible refine Chg.setNew ?_ (by omega) _) | (with_reducible refine Chg.setRow ?_ (by omega) _) | (with_reducible refine Chg.ext ?_ (by assumption)) | omega))).mono (by omega)⟩

      have e1 : sbOk s = true := by simp only [sbOk, HSL.out, hk, HSO.out, HGO.out]; rfl
      have e2 : sbD s = ⟨shD s.Disk SL (sbShot s), s.State, s.Num, s.Last, s.State.Index⟩ := by simp only [sbD, HSO.out, e1, HSL.out]; rfl
      have HA1 := Lib.hid e1; have HA2 := Lib.hid e2
      clear e1 e2 hk

      have CH7 : Chg w2.heap.size w3 w7 := CH4.ext (X6.trans X7)
      go_wp2_with fail
      refine bodyPost_ret (by simp [results, Tryz.results28, go_sem, CR7, FR7, LR7]; try rfl) rfl ?_
      refine ⟨_, rfl, by repeat' (first | (with_reducible exact Ext.refl _) | (with_reducible assumption) | (with_reducible refine Ext.drewN ?_ _) | (with_reducible refine Ext.drew ?_) | (with_reducible refine Ext.alloc ?_ _) | (with_reducible refine Ext.setCell ?_ ?_ _) | (with_reducible refine Ext.setRow ?_ ?_ _) | (with_reducible exact Nat.le_refl _) | (with_reducible refine Ext.trans ?_ (by assumption)) | omega), _, by (rw [HA1.out]; try rfl), ?_⟩
      rw [HA2.out]
      exact OwStore.of (IsDisk.mono (IsDisk.keep gd.is (by repeat' (first | (with_reducible exact Chg.refl _ _) | (with_reducible refine Chg.drewN ?_ _) | (with_reducible refine Chg.drew ?_) | (with_reducible refine Chg.alloc ?_ _) | (with_reducible refine Chg.setLow ?_ (by omega) _) | (with_reducible refine Chg.setNew ?_ (by omega) _) | (with_reducible refine Chg.setRow ?_ (by omega) _) | (with_reducible refine Chg.ext ?_ (by assumption)) | omega))) (by omega)) ((OwnI.keep gp3 (by repeat' (first | (with_reducible exact CH7) | (with_reducible exact Chg.refl _ _) | (with_reducible refine Chg.drewN ?_ _) | (with_reducible refine Chg.drew ?_) | (with_reducible refine Chg.alloc ?_ _) | (with_reducible refine Chg.setLow ?_ (by omega) _) | (with_reducible refine Chg.setNew ?_ (by omega) _) | (with_reducible refine Chg.setRow ?_ (by omega) _) | (with_reducible refine Chg.ext ?_ (by assumption)) | omega))).mono (by omega)) ((OwnI.keep gj3 (by repeat' (first | (with_reducible exact CH7) | (with_reducible exact Chg.refl _ _) | (with_reducible refine Chg.drewN ?_ _) | (with_reducible refine Chg.drew ?_) | (with_reducible refine Chg.alloc ?_ _) | (with_reducible refine Chg.setLow ?_ (by omega) _) | (with_reducible refine Chg.setNew ?_ (by omega) _) | (with_reducible refine Chg.setRow ?_ (by omega) _) | (with_reducible refine Chg.ext ?_ (by assumption)) | omega))).mono (by omega))
  rcases hat with hat | hat
  · have hsl : sbSlot s.Disk = 1 := by simp [sbSlot, hO, ← hA, hat]
    have za : (A == 0) = true := by simp [hat]
    have HSL := Lib.hid hsl
    clear hsl hA hat
    have CS5 := KS5.cell; have FS5 := KS5.frozen; have LS5 := KS5.lt; have CR5 := KR5.cell; have FR5 := KR5.frozen; have LR5 := KR5.lt; have CO5 := KO5.cell; have FO5 := KO5.frozen; have LO5 := KO5.lt
    go_wp2_with fail
    rw [← HW6.out]
    clear KS5 KR5 KO5 CS5 FS5 LS5 CR5 FR5 LR5 CO5 FO5 LO5
    have CS6 := KS6.cell; have FS6 := KS6.frozen; have LS6 := KS6.lt; have CR6 := KR6.cell; have FR6 := KR6.frozen; have LR6 := KR6.lt; have CO6 := KO6.cell; have FO6 := KO6.frozen; have LO6 := KO6.lt
    have ya0 : ∀ w', Ext w6 w' → w'.cell? ⟨w.heap.size, 0, none⟩ = some (.slice a0 n0 k0) := fun w' hw => (KS6.ext hw).cell 0
    have ya1 : ∀ w', Ext w6 w' → w'.cell? ⟨w.heap.size, 1, none⟩ = some (.slice a1 n1 k1) := fun w' hw => (KS6.ext hw).cell 1
    have ya2 : ∀ w', Ext w6 w' → w'.cell? ⟨w.heap.size, 2, none⟩ = some (.int .i64 s.State.Index) := fun w' hw => (KS6.ext hw).cell 2
    have ya3 : ∀ w', Ext w6 w' → w'.cell? ⟨w.heap.size, 3, none⟩ = some (.int .i64 s.State.Time) := fun w' hw => (KS6.ext hw).cell 3
    have ya4 : ∀ w', Ext w6 w' → w'.cell? ⟨w.heap.size, 4, none⟩ = some (.slice a4 n4 k4) := fun w' hw => (KS6.ext hw).cell 4
    have ya5 : ∀ w', Ext w6 w' → w'.cell? ⟨w.heap.size, 5, none⟩ = some (.slice a5 n5 k5) := fun w' hw => (KS6.ext hw).cell 5
    have ya6 : ∀ w', Ext w6 w' → w'.cell? ⟨w.heap.size, 6, none⟩ = some (.int .i64 s.State.Lease.Holder) := fun w' hw => (KS6.ext hw).cell 6
    have ya7 : ∀ w', Ext w6 w' → w'.cell? ⟨w.heap.size, 7, none⟩ = some (.int .i64 s.State.Lease.Epoch) := fun w' hw => (KS6.ext hw).cell 7
    have ya8 : ∀ w', Ext w6 w' → w'.cell? ⟨w.heap.size, 8, none⟩ = some (.int .i64 s.State.Lease.Until) := fun w' hw => (KS6.ext hw).cell 8
    have ya9 : ∀ w', Ext w6 w' → w'.cell? ⟨w.heap.size, 9, none⟩ = some (.int .i64 s.Num) := fun w' hw => (KS6.ext hw).cell 9
    clear CS6 FS6 LS6 CR6 FR6 LR6 CO6 FO6 LO6
    go_cut [9, 10] (fun sx bx wx => ∃ gg e0 f0 g0 e1 f1 g1, sx = .pointer (some ⟨gg, 0, none⟩) ∧ bx = .bool (shOk s.Disk 1 (sbShot s)) ∧ Ext w6 wx ∧ w6.heap.size ≤ gg ∧ Blk wx gg 56 #[.slice e0 f0 g0, .slice e1 f1 g1] ∧ ∃ F7, OwDisk w6.heap.size wx (.agg #[.slice e0 f0 g0, .slice e1 f1 g1]) (shD s.Disk 1 (sbShot s)) F7)
    case first =>
      go_region_held3 (fun w' => Ext w6 w') (repeat' (first | (with_reducible exact Ext.refl _) | (with_reducible assumption) | (with_reducible refine Ext.drewN ?_ _) | (with_reducible refine Ext.drew ?_) | (with_reducible refine Ext.alloc ?_ _) | (with_reducible refine Ext.setCell ?_ ?_ _) | (with_reducible refine Ext.setRow ?_ ?_ _) | (with_reducible exact Nat.le_refl _) | (with_reducible refine Ext.trans ?_ (by assumption)) | omega)) (first | (go_at_call 39; refine (l17Copy_k (HST.out.ext (E6.trans (by repeat' (first | (with_reducible exact Ext.refl _) | (with_reducible refine Ext.drewN ?_ _) | (with_reducible refine Ext.drew ?_) | (with_reducible refine Ext.alloc ?_ _) | (with_reducible refine Ext.setCell ?_ ?_ _) | (with_reducible refine Ext.trans ?_ hxb) | (with_reducible refine Ext.trans ?_ hxa) | (with_reducible assumption) | omega)))) (stateOk_small (storeOk_state HSO.out))).mono ?_; rintro e9 wa ⟨_, rfl, hxa, r2, r3, rfl, gp, gj⟩; obtain ⟨r4, rn4, rc4, rfl⟩ := gp.shape; obtain ⟨r5, rn5, rc5, rfl⟩ := gj.shape; have hzhxa := hxa.size; obtain ⟨hchxa, hdhxa⟩ := hxa.cells; (try simp only [World.size_alloc, size_drew] at hzhxa hchxa hdhxa); (try have hqhxaw6 : w6.heap.size < wa.heap.size := (by omega))) | (go_at_call 74; refine (sShotWrote_k (s := sbShot s) (u := .agg #[.int .i64 (s.Num + 1), .int .i64 s.State.Index, .int .i64 s.State.Time, .slice r4 rn4 rc4, .slice r5 rn5 rc5, .int .i64 s.State.Lease.Holder, .int .i64 s.State.Lease.Epoch, .int .i64 s.State.Lease.Until]) (HDD.out.ext (E6.trans (by repeat' (first | (with_reducible exact Ext.refl _) | (with_reducible refine Ext.drewN ?_ _) | (with_reducible refine Ext.drew ?_) | (with_reducible refine Ext.alloc ?_ _) | (with_reducible refine Ext.setCell ?_ ?_ _) | (with_reducible refine Ext.trans ?_ hxb) | (with_reducible refine Ext.trans ?_ hxa) | (with_reducible assumption) | omega)))) (RdShot.of4 ((OwnI.ints gp).ext (by repeat' (first | (with_reducible exact Ext.refl _) | (with_reducible refine Ext.drewN ?_ _) | (with_reducible refine Ext.drew ?_) | (with_reducible refine Ext.alloc ?_ _) | (with_reducible refine Ext.setCell ?_ ?_ _) | (with_reducible refine Ext.trans ?_ hxb) | (with_reducible refine Ext.trans ?_ hxa) | (with_reducible assumption) | omega))) ((OwnI.ints gj).ext (by repeat' (first | (with_reducible exact Ext.refl _) | (with_reducible refine Ext.drewN ?_ _) | (with_reducible refine Ext.drew ?_) | (with_reducible refine Ext.alloc ?_ _) | (with_reducible refine Ext.setCell ?_ ?_ _) | (with_reducible refine Ext.trans ?_ hxb) | (with_reducible refine Ext.trans ?_ hxa) | (with_reducible assumption) | omega)))) 1).mono ?_; rintro e9 wb ⟨_, rfl, hxb, ud, rfl, F7, gd⟩; obtain ⟨e0, f0, g0, e1, f1, g1, rfl⟩ := gd.rd.shape; have hzhxb := hxb.size; obtain ⟨hchxb, hdhxb⟩ := hxb.cells; (try simp only [World.size_alloc, size_drew] at hzhxb hchxb hdhxb); (try have hqhxbw6 : w6.heap.size < wb.heap.size := (by omega)); (try have hqhxbwa : wa.heap.size < wb.heap.size := (by omega))))
      all_goals clear ya0 ya1 ya2 ya3 ya4 ya5 ya6 ya7 ya8 ya9 hchxa hdhxa hchxb hdhxb
      all_goals go_wp2_with fail
      all_goals go_meet
      all_goals case rel =>
        (try simp only [World.size_alloc, size_drew] at *)
        exact ⟨_, _, _, _, _, _, _, rfl, by first | rfl | trivial, by repeat' (first | (with_reducible exact Ext.refl _) | (with_reducible assumption) | (with_reducible refine Ext.drewN ?_ _) | (with_reducible refine Ext.drew ?_) | (with_reducible refine Ext.alloc ?_ _) | (with_reducible refine Ext.setCell ?_ ?_ _) | (with_reducible refine Ext.setRow ?_ ?_ _) | (with_reducible exact Nat.le_refl _) | (with_reducible refine Ext.trans ?_ (by assumption)) | omega), by omega, (Blk.cast (by repeat' (first | (with_reducible assumption) | (with_reducible exact Blk.new _ _ _) | (with_reducible exact Blk.new2 _ _ _ _) | (with_reducible (apply Blk.ext; rotate_left; exact hxb)) | (with_reducible (apply Blk.ext; rotate_left; exact hxa)) | (with_reducible apply Blk.drew) | (with_reducible apply Blk.drewN) | (with_reducible apply Blk.alloc) | (with_reducible apply Blk.set_) | (with_reducible apply Blk.row) | (with_reducible apply Blk.far) | (with_reducible apply Blk.rowFar) | omega | (simp; omega))) (by simp)), F7, OwDisk.keep gd (by repeat' (first | (with_reducible exact Chg.refl _ _) | (with_reducible refine Chg.drewN ?_ _) | (with_reducible refine Chg.drew ?_) | (with_reducible refine Chg.alloc ?_ _) | (with_reducible refine Chg.setLow ?_ (by omega) _) | (with_reducible refine Chg.setNew ?_ (by omega) _) | (with_reducible refine Chg.setRow ?_ (by omega) _) | (with_reducible refine Chg.ext ?_ (by assumption)) | omega)) (by omega)⟩
    case rest =>
      revert wc; intro w7 hcut
      obtain ⟨gg, e0, f0, g0, e1, f1, g1, rfl, rfl, X7, hge7, KD7, F7, gd⟩ := hcut
      clear ya0 ya1 ya2 ya3 ya4 ya5 ya6 ya7 ya8 ya9
      have KS7 := KS6.ext X7; have KR7 := KR6.ext X7; have KO7 := KO6.ext X7
      have hz7 := X7.size
      have E7 := E6.trans X7
      have CS7 := KS7.cell; have FS7 := KS7.frozen; have LS7 := KS7.lt; have CR7 := KR7.cell; have FR7 := KR7.frozen; have LR7 := KR7.lt; have CO7 := KO7.cell; have FO7 := KO7.frozen; have LO7 := KO7.lt; have CD7 := KD7.cell; have FD7 := KD7.frozen; have LD7 := KD7.lt
      cases hk : shOk s.Disk 1 (sbShot s)
      · have e1 : sbOk s = false := by simp only [sbOk, HSL.out, hk]; simp
        have HA1 := Lib.hid e1
        have HA2 := Lib.hid (HNO.out e1)
        clear e1
        go_wp2_with fail
        refine bodyPost_ret (by simp [results, Tryz.results28, go_sem, CR7, FR7, LR7]; try rfl) rfl ?_
        refine ⟨_, rfl, by repeat' (first | (with_reducible exact Ext.refl _) | (with_reducible assumption) | (with_reducible refine Ext.drewN ?_ _) | (with_reducible refine Ext.drew ?_) | (with_reducible refine Ext.alloc ?_ _) | (with_reducible refine Ext.setCell ?_ ?_ _) | (with_reducible refine Ext.setRow ?_ ?_ _) | (with_reducible exact Nat.le_refl _) | (with_reducible refine Ext.trans ?_ (by assumption)) | omega), _, by (rw [HA1.out]; try rfl), ?_⟩
        rw [HA2.out]
        exact ⟨F3, (OwStore.keep (g6.ext X7) (by repeat' (first | (with_reducible exact Chg.refl _ _) | (with_reducible refine Chg.drewN ?_ _) | (with_reducible refine Chg.drew ?_) | (with_reducible refine Chg.alloc ?_ _) | (with_reducible refine Chg.setLow ?_ (by omega) _) | (with_reducible refine Chg.setNew ?_ (by omega) _) | (with_reducible refine Chg.setRow ?_ (by omega) _) | (with_reducible refine Chg.ext ?_ (by assumption)) | omega))).mono (by omega)⟩

      have e1 : sbOk s = true := by simp only [sbOk, HSL.out, hk, HSO.out, HGO.out]; rfl
      have e2 : sbD s = ⟨shD s.Disk 1 (sbShot s), s.State, s.Num, s.Last, s.State.Index⟩ := by simp only [sbD, HSO.out, e1, HSL.out]; rfl
      have HA1 := Lib.hid e1; have HA2 := Lib.hid e2
      clear e1 e2 hk

      have CH7 : Chg w2.heap.size w3 w7 := CH4.ext (X6.trans X7)
      go_wp2_with fail
      refine bodyPost_ret (by simp [results, Tryz.results28, go_sem, CR7, FR7, LR7]; try rfl) rfl ?_
      refine ⟨_, rfl, by repeat' (first | (with_reducible exact Ext.refl _) | (with_reducible assumption) | (with_reducible refine Ext.drewN ?_ _) | (with_reducible refine Ext.drew ?_) | (with_reducible refine Ext.alloc ?_ _) | (with_reducible refine Ext.setCell ?_ ?_ _) | (with_reducible refine Ext.setRow ?_ ?_ _) | (with_reducible exact Nat.le_refl _) | (with_reducible refine Ext.trans ?_ (by assumption)) | omega), _, by (rw [HA1.out]; try rfl), ?_⟩
      rw [HA2.out]
      exact OwStore.of (IsDisk.mono (IsDisk.keep gd.is (by repeat' (first | (with_reducible exact Chg.refl _ _) | (with_reducible refine Chg.drewN ?_ _) | (with_reducible refine Chg.drew ?_) | (with_reducible refine Chg.alloc ?_ _) | (with_reducible refine Chg.setLow ?_ (by omega) _) | (with_reducible refine Chg.setNew ?_ (by omega) _) | (with_reducible refine Chg.setRow ?_ (by omega) _) | (with_reducible refine Chg.ext ?_ (by assumption)) | omega))) (by omega)) ((OwnI.keep gp3 (by repeat' (first | (with_reducible exact CH7) | (with_reducible exact Chg.refl _ _) | (with_reducible refine Chg.drewN ?_ _) | (with_reducible refine Chg.drew ?_) | (with_reducible refine Chg.alloc ?_ _) | (with_reducible refine Chg.setLow ?_ (by omega) _) | (with_reducible refine Chg.setNew ?_ (by omega) _) | (with_reducible refine Chg.setRow ?_ (by omega) _) | (with_reducible refine Chg.ext ?_ (by assumption)) | omega))).mono (by omega)) ((OwnI.keep gj3 (by repeat' (first | (with_reducible exact CH7) | (with_reducible exact Chg.refl _ _) | (with_reducible refine Chg.drewN ?_ _) | (with_reducible refine Chg.drew ?_) | (with_reducible refine Chg.alloc ?_ _) | (with_reducible refine Chg.setLow ?_ (by omega) _) | (with_reducible refine Chg.setNew ?_ (by omega) _) | (with_reducible refine Chg.setRow ?_ (by omega) _) | (with_reducible refine Chg.ext ?_ (by assumption)) | omega))).mono (by omega))
  · have hsl : sbSlot s.Disk = 0 := by simp [sbSlot, hO, ← hA, hat]
    have za : (A == 0) = false := by simp [hat]
    obtain ⟨SL, hSL⟩ : ∃ SL : Int, SL = 0 := ⟨_, rfl⟩
    have HSL := Lib.hid (hsl.trans hSL.symm)
    clear hsl hA hat
    have CS5 := KS5.cell; have FS5 := KS5.frozen; have LS5 := KS5.lt; have CR5 := KR5.cell; have FR5 := KR5.frozen; have LR5 := KR5.lt; have CO5 := KO5.cell; have FO5 := KO5.frozen; have LO5 := KO5.lt
    go_wp2_with fail
    rw [← HW6.out]
    clear KS5 KR5 KO5 CS5 FS5 LS5 CR5 FR5 LR5 CO5 FO5 LO5
    have CS6 := KS6.cell; have FS6 := KS6.frozen; have LS6 := KS6.lt; have CR6 := KR6.cell; have FR6 := KR6.frozen; have LR6 := KR6.lt; have CO6 := KO6.cell; have FO6 := KO6.frozen; have LO6 := KO6.lt
    rw [← hSL]
    clear hSL
    have ya0 : ∀ w', Ext w6 w' → w'.cell? ⟨w.heap.size, 0, none⟩ = some (.slice a0 n0 k0) := fun w' hw => (KS6.ext hw).cell 0
    have ya1 : ∀ w', Ext w6 w' → w'.cell? ⟨w.heap.size, 1, none⟩ = some (.slice a1 n1 k1) := fun w' hw => (KS6.ext hw).cell 1
    have ya2 : ∀ w', Ext w6 w' → w'.cell? ⟨w.heap.size, 2, none⟩ = some (.int .i64 s.State.Index) := fun w' hw => (KS6.ext hw).cell 2
    have ya3 : ∀ w', Ext w6 w' → w'.cell? ⟨w.heap.size, 3, none⟩ = some (.int .i64 s.State.Time) := fun w' hw => (KS6.ext hw).cell 3
    have ya4 : ∀ w', Ext w6 w' → w'.cell? ⟨w.heap.size, 4, none⟩ = some (.slice a4 n4 k4) := fun w' hw => (KS6.ext hw).cell 4
    have ya5 : ∀ w', Ext w6 w' → w'.cell? ⟨w.heap.size, 5, none⟩ = some (.slice a5 n5 k5) := fun w' hw => (KS6.ext hw).cell 5
    have ya6 : ∀ w', Ext w6 w' → w'.cell? ⟨w.heap.size, 6, none⟩ = some (.int .i64 s.State.Lease.Holder) := fun w' hw => (KS6.ext hw).cell 6
    have ya7 : ∀ w', Ext w6 w' → w'.cell? ⟨w.heap.size, 7, none⟩ = some (.int .i64 s.State.Lease.Epoch) := fun w' hw => (KS6.ext hw).cell 7
    have ya8 : ∀ w', Ext w6 w' → w'.cell? ⟨w.heap.size, 8, none⟩ = some (.int .i64 s.State.Lease.Until) := fun w' hw => (KS6.ext hw).cell 8
    have ya9 : ∀ w', Ext w6 w' → w'.cell? ⟨w.heap.size, 9, none⟩ = some (.int .i64 s.Num) := fun w' hw => (KS6.ext hw).cell 9
    clear CS6 FS6 LS6 CR6 FR6 LR6 CO6 FO6 LO6
    go_cut [9, 10] (fun sx bx wx => ∃ gg e0 f0 g0 e1 f1 g1, sx = .pointer (some ⟨gg, 0, none⟩) ∧ bx = .bool (shOk s.Disk SL (sbShot s)) ∧ Ext w6 wx ∧ w6.heap.size ≤ gg ∧ Blk wx gg 56 #[.slice e0 f0 g0, .slice e1 f1 g1] ∧ ∃ F7, OwDisk w6.heap.size wx (.agg #[.slice e0 f0 g0, .slice e1 f1 g1]) (shD s.Disk SL (sbShot s)) F7)
    case first =>
      go_region_held3 (fun w' => Ext w6 w') (repeat' (first | (with_reducible exact Ext.refl _) | (with_reducible assumption) | (with_reducible refine Ext.drewN ?_ _) | (with_reducible refine Ext.drew ?_) | (with_reducible refine Ext.alloc ?_ _) | (with_reducible refine Ext.setCell ?_ ?_ _) | (with_reducible refine Ext.setRow ?_ ?_ _) | (with_reducible exact Nat.le_refl _) | (with_reducible refine Ext.trans ?_ (by assumption)) | omega)) (first | (go_at_call 39; refine (l17Copy_k (HST.out.ext (E6.trans (by repeat' (first | (with_reducible exact Ext.refl _) | (with_reducible refine Ext.drewN ?_ _) | (with_reducible refine Ext.drew ?_) | (with_reducible refine Ext.alloc ?_ _) | (with_reducible refine Ext.setCell ?_ ?_ _) | (with_reducible refine Ext.trans ?_ hxb) | (with_reducible refine Ext.trans ?_ hxa) | (with_reducible assumption) | omega)))) (stateOk_small (storeOk_state HSO.out))).mono ?_; rintro e9 wa ⟨_, rfl, hxa, r2, r3, rfl, gp, gj⟩; obtain ⟨r4, rn4, rc4, rfl⟩ := gp.shape; obtain ⟨r5, rn5, rc5, rfl⟩ := gj.shape; have hzhxa := hxa.size; obtain ⟨hchxa, hdhxa⟩ := hxa.cells; (try simp only [World.size_alloc, size_drew] at hzhxa hchxa hdhxa); (try have hqhxaw6 : w6.heap.size < wa.heap.size := (by omega))) | (go_at_call 74; refine (sShotWrote_k (s := sbShot s) (u := .agg #[.int .i64 (s.Num + 1), .int .i64 s.State.Index, .int .i64 s.State.Time, .slice r4 rn4 rc4, .slice r5 rn5 rc5, .int .i64 s.State.Lease.Holder, .int .i64 s.State.Lease.Epoch, .int .i64 s.State.Lease.Until]) (HDD.out.ext (E6.trans (by repeat' (first | (with_reducible exact Ext.refl _) | (with_reducible refine Ext.drewN ?_ _) | (with_reducible refine Ext.drew ?_) | (with_reducible refine Ext.alloc ?_ _) | (with_reducible refine Ext.setCell ?_ ?_ _) | (with_reducible refine Ext.trans ?_ hxb) | (with_reducible refine Ext.trans ?_ hxa) | (with_reducible assumption) | omega)))) (RdShot.of4 ((OwnI.ints gp).ext (by repeat' (first | (with_reducible exact Ext.refl _) | (with_reducible refine Ext.drewN ?_ _) | (with_reducible refine Ext.drew ?_) | (with_reducible refine Ext.alloc ?_ _) | (with_reducible refine Ext.setCell ?_ ?_ _) | (with_reducible refine Ext.trans ?_ hxb) | (with_reducible refine Ext.trans ?_ hxa) | (with_reducible assumption) | omega))) ((OwnI.ints gj).ext (by repeat' (first | (with_reducible exact Ext.refl _) | (with_reducible refine Ext.drewN ?_ _) | (with_reducible refine Ext.drew ?_) | (with_reducible refine Ext.alloc ?_ _) | (with_reducible refine Ext.setCell ?_ ?_ _) | (with_reducible refine Ext.trans ?_ hxb) | (with_reducible refine Ext.trans ?_ hxa) | (with_reducible assumption) | omega)))) SL).mono ?_; rintro e9 wb ⟨_, rfl, hxb, ud, rfl, F7, gd⟩; obtain ⟨e0, f0, g0, e1, f1, g1, rfl⟩ := gd.rd.shape; have hzhxb := hxb.size; obtain ⟨hchxb, hdhxb⟩ := hxb.cells; (try simp only [World.size_alloc, size_drew] at hzhxb hchxb hdhxb); (try have hqhxbw6 : w6.heap.size < wb.heap.size := (by omega)); (try have hqhxbwa : wa.heap.size < wb.heap.size := (by omega))))
      all_goals clear ya0 ya1 ya2 ya3 ya4 ya5 ya6 ya7 ya8 ya9 hchxa hdhxa hchxb hdhxb
      all_goals go_wp2_with fail
      all_goals go_meet
      all_goals case rel =>
        (try simp only [World.size_alloc, size_drew] at *)
        exact ⟨_, _, _, _, _, _, _, rfl, by first | rfl | trivial, by repeat' (first | (with_reducible exact Ext.refl _) | (with_reducible assumption) | (with_reducible refine Ext.drewN ?_ _) | (with_reducible refine Ext.drew ?_) | (with_reducible refine Ext.alloc ?_ _) | (with_reducible refine Ext.setCell ?_ ?_ _) | (with_reducible refine Ext.setRow ?_ ?_ _) | (with_reducible exact Nat.le_refl _) | (with_reducible refine Ext.trans ?_ (by assumption)) | omega), by omega, (Blk.cast (by repeat' (first | (with_reducible assumption) | (with_reducible exact Blk.new _ _ _) | (with_reducible exact Blk.new2 _ _ _ _) | (with_reducible (apply Blk.ext; rotate_left; exact hxb)) | (with_reducible (apply Blk.ext; rotate_left; exact hxa)) | (with_reducible apply Blk.drew) | (with_reducible apply Blk.drewN) | (with_reducible apply Blk.alloc) | (with_reducible apply Blk.set_) | (with_reducible apply Blk.row) | (with_reducible apply Blk.far) | (with_reducible apply Blk.rowFar) | omega | (simp; omega))) (by simp)), F7, OwDisk.keep gd (by repeat' (first | (with_reducible exact Chg.refl _ _) | (with_reducible refine Chg.drewN ?_ _) | (with_reducible refine Chg.drew ?_) | (with_reducible refine Chg.alloc ?_ _) | (with_reducible refine Chg.setLow ?_ (by omega) _) | (with_reducible refine Chg.setNew ?_ (by omega) _) | (with_reducible refine Chg.setRow ?_ (by omega) _) | (with_reducible refine Chg.ext ?_ (by assumption)) | omega)) (by omega)⟩
    case rest =>
      revert wc; intro w7 hcut
      obtain ⟨gg, e0, f0, g0, e1, f1, g1, rfl, rfl, X7, hge7, KD7, F7, gd⟩ := hcut
      clear ya0 ya1 ya2 ya3 ya4 ya5 ya6 ya7 ya8 ya9
      have KS7 := KS6.ext X7; have KR7 := KR6.ext X7; have KO7 := KO6.ext X7
      have hz7 := X7.size
      have E7 := E6.trans X7
      have CS7 := KS7.cell; have FS7 := KS7.frozen; have LS7 := KS7.lt; have CR7 := KR7.cell; have FR7 := KR7.frozen; have LR7 := KR7.lt; have CO7 := KO7.cell; have FO7 := KO7.frozen; have LO7 := KO7.lt; have CD7 := KD7.cell; have FD7 := KD7.frozen; have LD7 := KD7.lt
      cases hk : shOk s.Disk SL (sbShot s)
      · have e1 : sbOk s = false := by simp only [sbOk, HSL.out, hk]; simp
        have HA1 := Lib.hid e1
        have HA2 := Lib.hid (HNO.out e1)
        clear e1
        go_wp2_with fail
        refine bodyPost_ret (by simp [results, Tryz.results28, go_sem, CR7, FR7, LR7]; try rfl) rfl ?_
        refine ⟨_, rfl, by repeat' (first | (with_reducible exact Ext.refl _) | (with_reducible assumption) | (with_reducible refine Ext.drewN ?_ _) | (with_reducible refine Ext.drew ?_) | (with_reducible refine Ext.alloc ?_ _) | (with_reducible refine Ext.setCell ?_ ?_ _) | (with_reducible refine Ext.setRow ?_ ?_ _) | (with_reducible exact Nat.le_refl _) | (with_reducible refine Ext.trans ?_ (by assumption)) | omega), _, by (rw [HA1.out]; try rfl), ?_⟩
        rw [HA2.out]
        exact ⟨F3, (OwStore.keep (g6.ext X7) (by repeat' (first | (with_reducible exact Chg.refl _ _) | (with_reducible refine Chg.drewN ?_ _) | (with_reducible refine Chg.drew ?_) | (with_reducible refine Chg.alloc ?_ _) | (with_reducible refine Chg.setLow ?_ (by omega) _) | (with_reducible refine Chg.setNew ?_ (by omega) _) | (with_reducible refine Chg.setRow ?_ (by omega) _) | (with_reducible refine Chg.ext ?_ (by assumption)) | omega))).mono (by omega)⟩

      have e1 : sbOk s = true := by simp only [sbOk, HSL.out, hk, HSO.out, HGO.out]; rfl
      have e2 : sbD s = ⟨shD s.Disk SL (sbShot s), s.State, s.Num, s.Last, s.State.Index⟩ := by simp only [sbD, HSO.out, e1, HSL.out]; rfl
      have HA1 := Lib.hid e1; have HA2 := Lib.hid e2
      clear e1 e2 hk

      have CH7 : Chg w2.heap.size w3 w7 := CH4.ext (X6.trans X7)
      go_wp2_with fail
      refine bodyPost_ret (by simp [results, Tryz.results28, go_sem, CR7, FR7, LR7]; try rfl) rfl ?_
      refine ⟨_, rfl, by repeat' (first | (with_reducible exact Ext.refl _) | (with_reducible assumption) | (with_reducible refine Ext.drewN ?_ _) | (with_reducible refine Ext.drew ?_) | (with_reducible refine Ext.alloc ?_ _) | (with_reducible refine Ext.setCell ?_ ?_ _) | (with_reducible refine Ext.setRow ?_ ?_ _) | (with_reducible exact Nat.le_refl _) | (with_reducible refine Ext.trans ?_ (by assumption)) | omega), _, by (rw [HA1.out]; try rfl), ?_⟩
      rw [HA2.out]
      exact OwStore.of (IsDisk.mono (IsDisk.keep gd.is (by repeat' (first | (with_reducible exact Chg.refl _ _) | (with_reducible refine Chg.drewN ?_ _) | (with_reducible refine Chg.drew ?_) | (with_reducible refine Chg.alloc ?_ _) | (with_reducible refine Chg.setLow ?_ (by omega) _) | (with_reducible refine Chg.setNew ?_ (by omega) _) | (with_reducible refine Chg.setRow ?_ (by omega) _) | (with_reducible refine Chg.ext ?_ (by assumption)) | omega))) (by omega)) ((OwnI.keep gp3 (by repeat' (first | (with_reducible exact CH7) | (with_reducible exact Chg.refl _ _) | (with_reducible refine Chg.drewN ?_ _) | (with_reducible refine Chg.drew ?_) | (with_reducible refine Chg.alloc ?_ _) | (with_reducible refine Chg.setLow ?_ (by omega) _) | (with_reducible refine Chg.setNew ?_ (by omega) _) | (with_reducible refine Chg.setRow ?_ (by omega) _) | (with_reducible refine Chg.ext ?_ (by assumption)) | omega))).mono (by omega)) ((OwnI.keep gj3 (by repeat' (first | (with_reducible exact CH7) | (with_reducible exact Chg.refl _ _) | (with_reducible refine Chg.drewN ?_ _) | (with_reducible refine Chg.drew ?_) | (with_reducible refine Chg.alloc ?_ _) | (with_reducible refine Chg.setLow ?_ (by omega) _) | (with_reducible refine Chg.setNew ?_ (by omega) _) | (with_reducible refine Chg.setRow ?_ (by omega) _) | (with_reducible refine Chg.ext ?_ (by assumption)) | omega))).mono (by omega))

end Go.Proofs.YthdiaijiokoifaaGreat

-- Bounds of ShotBegun.
set_option linter.unusedSimpArgs false
set_option linter.unusedVariables false
namespace Go.Proofs.YthdiaijiokoifaaGreat
open Go.RowKit Go.G8

end Go.Proofs.YthdiaijiokoifaaGreat
namespace Go.G8
open Go.RowKit
open Go.Proofs.YthdiaijiokoifaaGreat
theorem storeOk_shelf {s : DStore} (h : storeOk s = true) : shelfOk s.Disk = true := by
  simp only [storeOk, Bool.and_eq_true] at h
  exact h.1
theorem nSb (s : DStore) : nStore (sbD s) ≤ 100000000 := by
  unfold sbD
  split
  · rename_i h
    obtain ⟨h1, h2⟩ := nState s h
    split
    · have h3 := nDisk_ok (shD_disk (slot := sbSlot s.Disk) (s := sbShot s) (storeOk_shelf h))
      rw [nStore_eq]; simp only []; omega
    · have h3 := nDisk_ok (storeOk_disk h)
      rw [nStore_eq]; omega
  · simp [nStore, tot, nestInt64S, nestWrite]
end Go.G8
namespace Go.Proofs.YthdiaijiokoifaaGreat
open Go.RowKit Go.G8

end Go.Proofs.YthdiaijiokoifaaGreat

-- The statement's walk: FnExactShotBegun.
set_option linter.unusedSimpArgs false
set_option linter.unusedVariables false
namespace Go.Proofs.YthdiaijiokoifaaGreat
open Go.RowKit Go.G8

set_option maxHeartbeats 4000000 in
set_option maxRecDepth 100000 in
theorem law_ShotBegun (w : World) (s0_0 : Value) (l0_0 : List (List Int)) (s0_1 : Value) (l0_1 : List DWrite) (c0_2 : Int) (c0_3 : Int) (s0_4 : Value) (l0_4 : List DPair) (s0_5 : Value) (l0_5 : List DJob) (c0_6 : Int) (c0_7 : Int) (c0_8 : Int) (c0_9 : Int) (c0_10 : Int) (c0_11 : Int) (h0_0 : Nest 0 w s0_0 (nestInt64S l0_0)) (h0_1 : Nest 1 w s0_1 (nestWrite l0_1)) (h0_4 : Ints 2 w s0_4 (flPair l0_4)) (h0_5 : Ints 5 w s0_5 (flJob l0_5)) : Calls Tryz.prog 6 #[.agg #[s0_0, s0_1, .int .i64 c0_2, .int .i64 c0_3, s0_4, s0_5, .int .i64 c0_6, .int .i64 c0_7, .int .i64 c0_8, .int .i64 c0_9, .int .i64 c0_10, .int .i64 c0_11]] w (RetV w (.bool true)) := by
  obtain ⟨a0_0, n0_0, k0_0, rfl⟩ := h0_0.shape
  obtain ⟨a0_1, n0_1, k0_1, rfl⟩ := h0_1.shape
  obtain ⟨a0_4, n0_4, k0_4, rfl⟩ := h0_4.shape
  obtain ⟨a0_5, n0_5, k0_5, rfl⟩ := h0_5.shape
  have h0 : RdStore w (.agg #[.slice a0_0 n0_0 k0_0, .slice a0_1 n0_1 k0_1, .int .i64 c0_2, .int .i64 c0_3, .slice a0_4 n0_4 k0_4, .slice a0_5 n0_5 k0_5, .int .i64 c0_6, .int .i64 c0_7, .int .i64 c0_8, .int .i64 c0_9, .int .i64 c0_10, .int .i64 c0_11]) ⟨⟨l0_0, l0_1⟩, ⟨c0_2, c0_3, l0_4, l0_5, ⟨c0_6, c0_7, c0_8⟩⟩, c0_9, c0_10, c0_11⟩ := ⟨_, _, _, _, rfl, h0_0, h0_1, h0_4, h0_5⟩
  obtain ⟨S, hS⟩ : ∃ S : DStore, S = ⟨⟨l0_0, l0_1⟩, ⟨c0_2, c0_3, l0_4, l0_5, ⟨c0_6, c0_7, c0_8⟩⟩, c0_9, c0_10, c0_11⟩ := ⟨_, rfl⟩
  rw [← hS] at h0
  go_enter Tryz.func6, Tryz.ntmps6
  go_wp2_with fail
  refine (sz_Store (h0.ext (by repeat' (first | (with_reducible exact Ext.refl _) | (with_reducible assumption) | (with_reducible refine Ext.drewN ?_ _) | (with_reducible refine Ext.drew ?_) | (with_reducible refine Ext.alloc ?_ _) | (with_reducible refine Ext.setCell ?_ ?_ _) | (with_reducible refine Ext.setRow ?_ ?_ _) | (with_reducible exact Nat.le_refl _) | (with_reducible refine Ext.trans ?_ (by assumption)) | omega))) (by omega) (by omega)).mono ?_
  rintro e w1 ⟨v1, rfl, hx1, hv1⟩
  have X1 : Ext w w1 := by repeat' (first | (with_reducible exact Ext.refl _) | (with_reducible assumption) | (with_reducible refine Ext.drewN ?_ _) | (with_reducible refine Ext.drew ?_) | (with_reducible refine Ext.alloc ?_ _) | (with_reducible refine Ext.setCell ?_ ?_ _) | (with_reducible refine Ext.setRow ?_ ?_ _) | (with_reducible exact Nat.le_refl _) | (with_reducible refine Ext.trans ?_ (by assumption)) | omega)
  have Ba : Blk w1 w.heap.size 51 #[.slice a0_0 n0_0 k0_0, .slice a0_1 n0_1 k0_1, .int .i64 c0_2, .int .i64 c0_3, .slice a0_4 n0_4 k0_4, .slice a0_5 n0_5 k0_5, .int .i64 c0_6, .int .i64 c0_7, .int .i64 c0_8, .int .i64 c0_9, .int .i64 c0_10, .int .i64 c0_11] := (Blk.new w 51 #[.slice a0_0 n0_0 k0_0, .slice a0_1 n0_1 k0_1, .int .i64 c0_2, .int .i64 c0_3, .slice a0_4 n0_4 k0_4, .slice a0_5 n0_5 k0_5, .int .i64 c0_6, .int .i64 c0_7, .int .i64 c0_8, .int .i64 c0_9, .int .i64 c0_10, .int .i64 c0_11]).ext hx1
  have MBa := Ba.lt
  have Z1 := X1.size
  have E1 : Ext w w1 := X1
  clear hx1
  have CBa := Ba.cell; have LBa := Ba.lt
  rcases hv1 with ⟨rfl, qz⟩ | ⟨rfl, qz⟩
  · go_wp2; go_ret; exact ⟨rfl, by repeat' (first | (with_reducible exact Ext.refl _) | (with_reducible assumption) | (with_reducible refine Ext.drewN ?_ _) | (with_reducible refine Ext.drew ?_) | (with_reducible refine Ext.alloc ?_ _) | (with_reducible refine Ext.setCell ?_ ?_ _) | (with_reducible refine Ext.setRow ?_ ?_ _) | (with_reducible exact Nat.le_refl _) | (with_reducible refine Ext.trans ?_ (by assumption)) | omega)⟩
  have q0 : rowsSize (nestInt64S S.Disk.Kept) ≤ 1048576 := by omega
  have q1 : rowsSize (nestWrite S.Disk.Wait) ≤ 1048576 := by omega
  have q2 : S.State.Pairs.length ≤ 1048576 := by omega
  have q3 : S.State.Jobs.length ≤ 1048576 := by omega
  have nx := nStore_le2 S q0 q1 q2 q3
  have nb := nSb S
  clear hS h0_0 h0_1 h0_4 h0_5
  go_wp2_with fail
  refine (to_Store (h0.ext (by repeat' (first | (with_reducible exact Ext.refl _) | (with_reducible assumption) | (with_reducible refine Ext.drewN ?_ _) | (with_reducible refine Ext.drew ?_) | (with_reducible refine Ext.alloc ?_ _) | (with_reducible refine Ext.setCell ?_ ?_ _) | (with_reducible refine Ext.setRow ?_ ?_ _) | (with_reducible exact Nat.le_refl _) | (with_reducible refine Ext.trans ?_ (by assumption)) | omega))) q0 q1 q2 q3).mono ?_
  rintro e w2 ⟨_, rfl, hx2, Fu, gu⟩
  obtain ⟨au0, nu0, ku0, au1, nu1, ku1, au4, nu4, ku4, au5, nu5, ku5, rfl⟩ := gu.rd.shape
  have lu := gu.low; (try simp only [World.size_alloc] at lu)
  have X2 : Ext w1 w2 := by repeat' (first | (with_reducible exact Ext.refl _) | (with_reducible assumption) | (with_reducible refine Ext.drewN ?_ _) | (with_reducible refine Ext.drew ?_) | (with_reducible refine Ext.alloc ?_ _) | (with_reducible refine Ext.setCell ?_ ?_ _) | (with_reducible refine Ext.setRow ?_ ?_ _) | (with_reducible exact Nat.le_refl _) | (with_reducible refine Ext.trans ?_ (by assumption)) | omega)
  have Z2 := X2.size
  have E2 : Ext w w2 := E1.trans X2
  have Ba := Ba.ext X2
  clear hx2
  clear CBa LBa
  have CBa := Ba.cell; have LBa := Ba.lt
  go_wp2_with fail
  refine (sShotBegun_k ((gu.rd).ext (by repeat' (first | (with_reducible exact Ext.refl _) | (with_reducible assumption) | (with_reducible refine Ext.drewN ?_ _) | (with_reducible refine Ext.drew ?_) | (with_reducible refine Ext.alloc ?_ _) | (with_reducible refine Ext.setCell ?_ ?_ _) | (with_reducible refine Ext.setRow ?_ ?_ _) | (with_reducible exact Nat.le_refl _) | (with_reducible refine Ext.trans ?_ (by assumption)) | omega)))).mono ?_
  rintro e w3 ⟨_, rfl, hx3, vw, rfl, Fw, gw⟩
  obtain ⟨aw0, nw0, kw0, aw1, nw1, kw1, aw4, nw4, kw4, aw5, nw5, kw5, rfl⟩ := gw.rd.shape
  have lw := gw.low; (try simp only [World.size_alloc] at lw)
  have X3 : Ext w2 w3 := by repeat' (first | (with_reducible exact Ext.refl _) | (with_reducible assumption) | (with_reducible refine Ext.drewN ?_ _) | (with_reducible refine Ext.drew ?_) | (with_reducible refine Ext.alloc ?_ _) | (with_reducible refine Ext.setCell ?_ ?_ _) | (with_reducible refine Ext.setRow ?_ ?_ _) | (with_reducible exact Nat.le_refl _) | (with_reducible refine Ext.trans ?_ (by assumption)) | omega)
  have Z3 := X3.size
  have E3 : Ext w w3 := E2.trans X3
  have Ba := Ba.ext X3
  have gu := gu.ext X3
  clear hx3
  clear CBa LBa
  have CBa := Ba.cell; have LBa := Ba.lt
  go_wp2_with fail
  refine (to_Store (h0.ext (by repeat' (first | (with_reducible exact Ext.refl _) | (with_reducible assumption) | (with_reducible refine Ext.drewN ?_ _) | (with_reducible refine Ext.drew ?_) | (with_reducible refine Ext.alloc ?_ _) | (with_reducible refine Ext.setCell ?_ ?_ _) | (with_reducible refine Ext.setRow ?_ ?_ _) | (with_reducible exact Nat.le_refl _) | (with_reducible refine Ext.trans ?_ (by assumption)) | omega))) q0 q1 q2 q3).mono ?_
  rintro e w4 ⟨_, rfl, hx4, Fx, gx⟩
  obtain ⟨ax0, nx0, kx0, ax1, nx1, kx1, ax4, nx4, kx4, ax5, nx5, kx5, rfl⟩ := gx.rd.shape
  have lx := gx.low; (try simp only [World.size_alloc] at lx)
  have X4 : Ext w3 w4 := by repeat' (first | (with_reducible exact Ext.refl _) | (with_reducible assumption) | (with_reducible refine Ext.drewN ?_ _) | (with_reducible refine Ext.drew ?_) | (with_reducible refine Ext.alloc ?_ _) | (with_reducible refine Ext.setCell ?_ ?_ _) | (with_reducible refine Ext.setRow ?_ ?_ _) | (with_reducible exact Nat.le_refl _) | (with_reducible refine Ext.trans ?_ (by assumption)) | omega)
  have Bw : Blk w4 w3.heap.size 58 #[.slice aw0 nw0 kw0, .slice aw1 nw1 kw1, .int .i64 (sbD S).State.Index, .int .i64 (sbD S).State.Time, .slice aw4 nw4 kw4, .slice aw5 nw5 kw5, .int .i64 (sbD S).State.Lease.Holder, .int .i64 (sbD S).State.Lease.Epoch, .int .i64 (sbD S).State.Lease.Until, .int .i64 (sbD S).Num, .int .i64 (sbD S).Last, .int .i64 (sbD S).Busy] := (Blk.new w3 58 #[.slice aw0 nw0 kw0, .slice aw1 nw1 kw1, .int .i64 (sbD S).State.Index, .int .i64 (sbD S).State.Time, .slice aw4 nw4 kw4, .slice aw5 nw5 kw5, .int .i64 (sbD S).State.Lease.Holder, .int .i64 (sbD S).State.Lease.Epoch, .int .i64 (sbD S).State.Lease.Until, .int .i64 (sbD S).Num, .int .i64 (sbD S).Last, .int .i64 (sbD S).Busy]).ext hx4
  have MBw := Bw.lt
  have Z4 := X4.size
  have E4 : Ext w w4 := E3.trans X4
  have Ba := Ba.ext X4
  have gw := gw.ext X4
  clear hx4
  clear CBa LBa
  have CBa := Ba.cell; have LBa := Ba.lt
  have CBw := Bw.cell; have LBw := Bw.lt
  go_wp2_with fail
  refine (shotBegun_k ((gx.rd).ext (by repeat' (first | (with_reducible exact Ext.refl _) | (with_reducible assumption) | (with_reducible refine Ext.drewN ?_ _) | (with_reducible refine Ext.drew ?_) | (with_reducible refine Ext.alloc ?_ _) | (with_reducible refine Ext.setCell ?_ ?_ _) | (with_reducible refine Ext.setRow ?_ ?_ _) | (with_reducible exact Nat.le_refl _) | (with_reducible refine Ext.trans ?_ (by assumption)) | omega)))).mono ?_
  rintro e w5 ⟨_, rfl, hx5, vg, rfl, Fg, gg⟩
  obtain ⟨ag0, ng0, kg0, ag1, ng1, kg1, ag4, ng4, kg4, ag5, ng5, kg5, rfl⟩ := gg.rd.shape
  have lg := gg.low; (try simp only [World.size_alloc] at lg)
  have X5 : Ext w4 w5 := by repeat' (first | (with_reducible exact Ext.refl _) | (with_reducible assumption) | (with_reducible refine Ext.drewN ?_ _) | (with_reducible refine Ext.drew ?_) | (with_reducible refine Ext.alloc ?_ _) | (with_reducible refine Ext.setCell ?_ ?_ _) | (with_reducible refine Ext.setRow ?_ ?_ _) | (with_reducible exact Nat.le_refl _) | (with_reducible refine Ext.trans ?_ (by assumption)) | omega)
  have Bx : Blk w5 w4.heap.size 58 #[.slice ax0 nx0 kx0, .slice ax1 nx1 kx1, .int .i64 S.State.Index, .int .i64 S.State.Time, .slice ax4 nx4 kx4, .slice ax5 nx5 kx5, .int .i64 S.State.Lease.Holder, .int .i64 S.State.Lease.Epoch, .int .i64 S.State.Lease.Until, .int .i64 S.Num, .int .i64 S.Last, .int .i64 S.Busy] := (Blk.new w4 58 #[.slice ax0 nx0 kx0, .slice ax1 nx1 kx1, .int .i64 S.State.Index, .int .i64 S.State.Time, .slice ax4 nx4 kx4, .slice ax5 nx5 kx5, .int .i64 S.State.Lease.Holder, .int .i64 S.State.Lease.Epoch, .int .i64 S.State.Lease.Until, .int .i64 S.Num, .int .i64 S.Last, .int .i64 S.Busy]).ext hx5
  have MBx := Bx.lt
  have Z5 := X5.size
  have E5 : Ext w w5 := E4.trans X5
  have Ba := Ba.ext X5
  have gw := gw.ext X5
  have Bw := Bw.ext X5
  have gx := gx.ext X5
  clear hx5
  clear CBa LBa CBw LBw
  have CBa := Ba.cell; have LBa := Ba.lt
  have CBw := Bw.cell; have LBw := Bw.lt
  have CBx := Bx.cell; have LBx := Bx.lt
  as_aux_lemma =>
    go_wp2_with fail
    refine (eq_Store ((gg.rd).ext (by repeat' (first | (with_reducible exact Ext.refl _) | (with_reducible assumption) | (with_reducible refine Ext.drewN ?_ _) | (with_reducible refine Ext.drew ?_) | (with_reducible refine Ext.alloc ?_ _) | (with_reducible refine Ext.setCell ?_ ?_ _) | (with_reducible refine Ext.setRow ?_ ?_ _) | (with_reducible exact Nat.le_refl _) | (with_reducible refine Ext.trans ?_ (by assumption)) | omega))) ((gw.rd).ext (by repeat' (first | (with_reducible exact Ext.refl _) | (with_reducible assumption) | (with_reducible refine Ext.drewN ?_ _) | (with_reducible refine Ext.drew ?_) | (with_reducible refine Ext.alloc ?_ _) | (with_reducible refine Ext.setCell ?_ ?_ _) | (with_reducible refine Ext.setRow ?_ ?_ _) | (with_reducible exact Nat.le_refl _) | (with_reducible refine Ext.trans ?_ (by assumption)) | omega)))).mono ?_
    rintro e w6 ⟨rfl, hx6⟩
    have X6 : Ext w5 w6 := by repeat' (first | (with_reducible exact Ext.refl _) | (with_reducible assumption) | (with_reducible refine Ext.drewN ?_ _) | (with_reducible refine Ext.drew ?_) | (with_reducible refine Ext.alloc ?_ _) | (with_reducible refine Ext.setCell ?_ ?_ _) | (with_reducible refine Ext.setRow ?_ ?_ _) | (with_reducible exact Nat.le_refl _) | (with_reducible refine Ext.trans ?_ (by assumption)) | omega)
    have Bg : Blk w6 w5.heap.size 58 #[.slice ag0 ng0 kg0, .slice ag1 ng1 kg1, .int .i64 (sbD S).State.Index, .int .i64 (sbD S).State.Time, .slice ag4 ng4 kg4, .slice ag5 ng5 kg5, .int .i64 (sbD S).State.Lease.Holder, .int .i64 (sbD S).State.Lease.Epoch, .int .i64 (sbD S).State.Lease.Until, .int .i64 (sbD S).Num, .int .i64 (sbD S).Last, .int .i64 (sbD S).Busy] := (Blk.new w5 58 #[.slice ag0 ng0 kg0, .slice ag1 ng1 kg1, .int .i64 (sbD S).State.Index, .int .i64 (sbD S).State.Time, .slice ag4 ng4 kg4, .slice ag5 ng5 kg5, .int .i64 (sbD S).State.Lease.Holder, .int .i64 (sbD S).State.Lease.Epoch, .int .i64 (sbD S).State.Lease.Until, .int .i64 (sbD S).Num, .int .i64 (sbD S).Last, .int .i64 (sbD S).Busy]).ext hx6
    have MBg := Bg.lt
    have Z6 := X6.size
    have E6 : Ext w w6 := E5.trans X6
    have Ba := Ba.ext X6
    have gw := gw.ext X6
    have Bw := Bw.ext X6
    have gx := gx.ext X6
    have Bx := Bx.ext X6
    have gg := gg.ext X6
    clear hx6
    clear CBa LBa CBw LBw CBx LBx
    have CBa := Ba.cell; have LBa := Ba.lt
    have CBw := Bw.cell; have LBw := Bw.lt
    have CBx := Bx.cell; have LBx := Bx.lt
    have CBg := Bg.cell; have LBg := Bg.lt
    go_wp2_with fail
    have ya0 : ∀ w', Ext w6 w' → w'.cell? ⟨_, 0, none⟩ = some (.slice a0_0 n0_0 k0_0) := fun w' hw => (Ba.ext hw).cell 0
    have ya1 : ∀ w', Ext w6 w' → w'.cell? ⟨_, 1, none⟩ = some (.slice a0_1 n0_1 k0_1) := fun w' hw => (Ba.ext hw).cell 1
    have ya2 : ∀ w', Ext w6 w' → w'.cell? ⟨_, 2, none⟩ = some (.int .i64 c0_2) := fun w' hw => (Ba.ext hw).cell 2
    have ya3 : ∀ w', Ext w6 w' → w'.cell? ⟨_, 3, none⟩ = some (.int .i64 c0_3) := fun w' hw => (Ba.ext hw).cell 3
    have ya4 : ∀ w', Ext w6 w' → w'.cell? ⟨_, 4, none⟩ = some (.slice a0_4 n0_4 k0_4) := fun w' hw => (Ba.ext hw).cell 4
    have ya5 : ∀ w', Ext w6 w' → w'.cell? ⟨_, 5, none⟩ = some (.slice a0_5 n0_5 k0_5) := fun w' hw => (Ba.ext hw).cell 5
    have ya6 : ∀ w', Ext w6 w' → w'.cell? ⟨_, 6, none⟩ = some (.int .i64 c0_6) := fun w' hw => (Ba.ext hw).cell 6
    have ya7 : ∀ w', Ext w6 w' → w'.cell? ⟨_, 7, none⟩ = some (.int .i64 c0_7) := fun w' hw => (Ba.ext hw).cell 7
    have ya8 : ∀ w', Ext w6 w' → w'.cell? ⟨_, 8, none⟩ = some (.int .i64 c0_8) := fun w' hw => (Ba.ext hw).cell 8
    have ya9 : ∀ w', Ext w6 w' → w'.cell? ⟨_, 9, none⟩ = some (.int .i64 c0_9) := fun w' hw => (Ba.ext hw).cell 9
    have ya10 : ∀ w', Ext w6 w' → w'.cell? ⟨_, 10, none⟩ = some (.int .i64 c0_10) := fun w' hw => (Ba.ext hw).cell 10
    have ya11 : ∀ w', Ext w6 w' → w'.cell? ⟨_, 11, none⟩ = some (.int .i64 c0_11) := fun w' hw => (Ba.ext hw).cell 11
    have yb0 : ∀ w', Ext w6 w' → w'.cell? ⟨_, 0, none⟩ = some (.slice ax0 nx0 kx0) := fun w' hw => (Bx.ext hw).cell 0
    have yb1 : ∀ w', Ext w6 w' → w'.cell? ⟨_, 1, none⟩ = some (.slice ax1 nx1 kx1) := fun w' hw => (Bx.ext hw).cell 1
    have yb2 : ∀ w', Ext w6 w' → w'.cell? ⟨_, 2, none⟩ = some (.int .i64 S.State.Index) := fun w' hw => (Bx.ext hw).cell 2
    have yb3 : ∀ w', Ext w6 w' → w'.cell? ⟨_, 3, none⟩ = some (.int .i64 S.State.Time) := fun w' hw => (Bx.ext hw).cell 3
    have yb4 : ∀ w', Ext w6 w' → w'.cell? ⟨_, 4, none⟩ = some (.slice ax4 nx4 kx4) := fun w' hw => (Bx.ext hw).cell 4
    have yb5 : ∀ w', Ext w6 w' → w'.cell? ⟨_, 5, none⟩ = some (.slice ax5 nx5 kx5) := fun w' hw => (Bx.ext hw).cell 5
    have yb6 : ∀ w', Ext w6 w' → w'.cell? ⟨_, 6, none⟩ = some (.int .i64 S.State.Lease.Holder) := fun w' hw => (Bx.ext hw).cell 6
    have yb7 : ∀ w', Ext w6 w' → w'.cell? ⟨_, 7, none⟩ = some (.int .i64 S.State.Lease.Epoch) := fun w' hw => (Bx.ext hw).cell 7
    have yb8 : ∀ w', Ext w6 w' → w'.cell? ⟨_, 8, none⟩ = some (.int .i64 S.State.Lease.Until) := fun w' hw => (Bx.ext hw).cell 8
    have yb9 : ∀ w', Ext w6 w' → w'.cell? ⟨_, 9, none⟩ = some (.int .i64 S.Num) := fun w' hw => (Bx.ext hw).cell 9
    have yb10 : ∀ w', Ext w6 w' → w'.cell? ⟨_, 10, none⟩ = some (.int .i64 S.Last) := fun w' hw => (Bx.ext hw).cell 10
    have yb11 : ∀ w', Ext w6 w' → w'.cell? ⟨_, 11, none⟩ = some (.int .i64 S.Busy) := fun w' hw => (Bx.ext hw).cell 11
    clear CBa LBa CBw LBw CBx LBx CBg LBg
    go_region_held3 (fun w' => Ext w6 w') (first | exact Ext.drew (Ext.refl _) | exact Ext.trans (by assumption) hx7 | exact Ext.trans (by assumption) hx8) (first | (go_at_call 21; refine (to_Store (h0.ext (Ext.trans E6 (by assumption))) q0 q1 q2 q3).mono ?_; rintro e w7 ⟨_, rfl, hx7, Fz, gz⟩; obtain ⟨az0, nz0, kz0, az1, nz1, kz1, az4, nz4, kz4, az5, nz5, kz5, rfl⟩ := gz.rd.shape) | (go_at_call 23; refine (eq_Store ((gx.rd).ext (by assumption)) gz.rd).mono ?_; rintro e w8 ⟨rfl, hx8⟩))
    have X8 : Ext w6 w8 := by assumption
    clear ya0 yb0 ya1 yb1 ya2 yb2 ya3 yb3 ya4 yb4 ya5 yb5 ya6 yb6 ya7 yb7 ya8 yb8 ya9 yb9 ya10 yb10 ya11 yb11 hx8
    have Z8 := X8.size; have E8 : Ext w w8 := E6.trans X8
    have Ba := Ba.ext X8
    have gw := gw.ext X8
    have Bw := Bw.ext X8
    have gx := gx.ext X8
    have Bx := Bx.ext X8
    have gg := gg.ext X8
    have Bg := Bg.ext X8
    have CBa := Ba.cell; have LBa := Ba.lt
    have CBw := Bw.cell; have LBw := Bw.lt
    have CBx := Bx.cell; have LBx := Bx.lt
    have CBg := Bg.cell; have LBg := Bg.lt
    as_aux_lemma =>
      go_wp2_with fail
      refine (mark_Store (gx.ext (by repeat' (first | (with_reducible exact Ext.refl _) | (with_reducible assumption) | (with_reducible refine Ext.drewN ?_ _) | (with_reducible refine Ext.drew ?_) | (with_reducible refine Ext.alloc ?_ _) | (with_reducible refine Ext.setCell ?_ ?_ _) | (with_reducible refine Ext.setRow ?_ ?_ _) | (with_reducible exact Nat.le_refl _) | (with_reducible refine Ext.trans ?_ (by assumption)) | omega))) (by omega) (by have := nx; omega)).mono ?_
      rintro e w9 ⟨rfl, hx9, gxm⟩
      have X9 : Upd w8 w9 Fx := (Ext.upd (by repeat' (first | (with_reducible exact Ext.refl _) | (with_reducible assumption) | (with_reducible refine Ext.drewN ?_ _) | (with_reducible refine Ext.drew ?_) | (with_reducible refine Ext.alloc ?_ _) | (with_reducible refine Ext.setCell ?_ ?_ _) | (with_reducible refine Ext.setRow ?_ ?_ _) | (with_reducible exact Nat.le_refl _) | (with_reducible refine Ext.trans ?_ (by assumption)) | omega)) _).trans hx9
      have Z9 := X9.size
      have E9 : Ext w w9 := E8.upd_below X9 (fun k hk => by have := lx k hk; omega)
      have Ba := Ba.upd X9 (fun hk => by have := lx _ hk; omega)
      have gw := gw.upd X9 (fun k hk hk' => by have := lx k hk'; have := lw k hk; omega)
      have Bw := Bw.upd X9 (fun hk => by have := lx _ hk; omega)
      have Bx := Bx.upd X9 (fun hk => by have := lx _ hk; omega)
      have gg := gg.upd X9 (fun k hk hk' => by have := lx k hk'; have := lg k hk; omega)
      have Bg := Bg.upd X9 (fun hk => by have := lx _ hk; omega)
      obtain ⟨K, hK⟩ : ∃ z : Int, z = 1 + ((nStore (S) : Nat) : Int) := ⟨_, rfl⟩
      rw [← hK]
      have pK : 0 ≤ K := by omega
      have rK : K ≤ 1000000000 := by have := nx; omega
      have HK := Lib.hid hK
      clear hK
      have dK : decide (K < 0) = false := by simp; omega
      clear hx9
      clear CBa LBa CBw LBw CBx LBx CBg LBg
      have CBa := Ba.cell; have LBa := Ba.lt
      have CBw := Bw.cell; have LBw := Bw.lt
      have CBx := Bx.cell; have LBx := Bx.lt
      have CBg := Bg.cell; have LBg := Bg.lt
      go_wp2_with fail
      refine (eq_Store ((gg.rd).ext (by repeat' (first | (with_reducible exact Ext.refl _) | (with_reducible assumption) | (with_reducible refine Ext.drewN ?_ _) | (with_reducible refine Ext.drew ?_) | (with_reducible refine Ext.alloc ?_ _) | (with_reducible refine Ext.setCell ?_ ?_ _) | (with_reducible refine Ext.setRow ?_ ?_ _) | (with_reducible exact Nat.le_refl _) | (with_reducible refine Ext.trans ?_ (by assumption)) | omega))) ((gw.rd).ext (by repeat' (first | (with_reducible exact Ext.refl _) | (with_reducible assumption) | (with_reducible refine Ext.drewN ?_ _) | (with_reducible refine Ext.drew ?_) | (with_reducible refine Ext.alloc ?_ _) | (with_reducible refine Ext.setCell ?_ ?_ _) | (with_reducible refine Ext.setRow ?_ ?_ _) | (with_reducible exact Nat.le_refl _) | (with_reducible refine Ext.trans ?_ (by assumption)) | omega)))).mono ?_
      rintro e w10 ⟨rfl, hx10⟩
      have X10 : Ext w9 w10 := by repeat' (first | (with_reducible exact Ext.refl _) | (with_reducible assumption) | (with_reducible refine Ext.drewN ?_ _) | (with_reducible refine Ext.drew ?_) | (with_reducible refine Ext.alloc ?_ _) | (with_reducible refine Ext.setCell ?_ ?_ _) | (with_reducible refine Ext.setRow ?_ ?_ _) | (with_reducible exact Nat.le_refl _) | (with_reducible refine Ext.trans ?_ (by assumption)) | omega)
      have Z10 := X10.size
      have E10 : Ext w w10 := E9.trans X10
      have Ba := Ba.ext X10
      have gw := gw.ext X10
      have Bw := Bw.ext X10
      have Bx := Bx.ext X10
      have gg := gg.ext X10
      have Bg := Bg.ext X10
      clear hx10
      clear CBa LBa CBw LBw CBx LBx CBg LBg
      have CBa := Ba.cell; have LBa := Ba.lt
      have CBw := Bw.cell; have LBw := Bw.lt
      have CBx := Bx.cell; have LBx := Bx.lt
      have CBg := Bg.cell; have LBg := Bg.lt
      go_wp2_with fail
      refine (mark_Store (gg.ext (by repeat' (first | (with_reducible exact Ext.refl _) | (with_reducible assumption) | (with_reducible refine Ext.drewN ?_ _) | (with_reducible refine Ext.drew ?_) | (with_reducible refine Ext.alloc ?_ _) | (with_reducible refine Ext.setCell ?_ ?_ _) | (with_reducible refine Ext.setRow ?_ ?_ _) | (with_reducible exact Nat.le_refl _) | (with_reducible refine Ext.trans ?_ (by assumption)) | omega))) (by omega) (by have := nb; omega)).mono ?_
      rintro e w11 ⟨rfl, hx11, gm⟩
      have X11 : Upd w10 w11 Fg := (Ext.upd (by repeat' (first | (with_reducible exact Ext.refl _) | (with_reducible assumption) | (with_reducible refine Ext.drewN ?_ _) | (with_reducible refine Ext.drew ?_) | (with_reducible refine Ext.alloc ?_ _) | (with_reducible refine Ext.setCell ?_ ?_ _) | (with_reducible refine Ext.setRow ?_ ?_ _) | (with_reducible exact Nat.le_refl _) | (with_reducible refine Ext.trans ?_ (by assumption)) | omega)) _).trans hx11
      have Z11 := X11.size
      have E11 : Ext w w11 := E10.upd_below X11 (fun k hk => by have := lg k hk; omega)
      have Ba := Ba.upd X11 (fun hk => by have := lg _ hk; omega)
      have gw := gw.upd X11 (fun k hk hk' => by have := lg k hk'; have := lw k hk; omega)
      have Bw := Bw.upd X11 (fun hk => by have := lg _ hk; omega)
      have Bx := Bx.upd X11 (fun hk => by have := lg _ hk; omega)
      have Bg := Bg.upd X11 (fun hk => by have := lg _ hk; omega)
      obtain ⟨N, hN⟩ : ∃ z : Int, z = 1 + ((nStore (sbD S) : Nat) : Int) := ⟨_, rfl⟩
      rw [← hN]
      have pN : 0 ≤ N := by omega
      have rN : N ≤ 1000000000 := by have := nb; omega
      have HN := Lib.hid hN
      clear hN
      have dN : decide (N < 0) = false := by simp; omega
      clear hx11
      clear CBa LBa CBw LBw CBx LBx CBg LBg
      have CBa := Ba.cell; have LBa := Ba.lt
      have CBw := Bw.cell; have LBw := Bw.lt
      have CBx := Bx.cell; have LBx := Bx.lt
      have CBg := Bg.cell; have LBg := Bg.lt
      go_wp2_with fail
      refine (held_Store (gm.ext (by repeat' (first | (with_reducible exact Ext.refl _) | (with_reducible assumption) | (with_reducible refine Ext.drewN ?_ _) | (with_reducible refine Ext.drew ?_) | (with_reducible refine Ext.alloc ?_ _) | (with_reducible refine Ext.setCell ?_ ?_ _) | (with_reducible refine Ext.setRow ?_ ?_ _) | (with_reducible exact Nat.le_refl _) | (with_reducible refine Ext.trans ?_ (by assumption)) | omega))) (by omega) (by have := nb; omega)).mono ?_
      rintro e w12 ⟨rfl, hx12⟩
      rw [← HN.out]
      have X12 : Ext w11 w12 := by repeat' (first | (with_reducible exact Ext.refl _) | (with_reducible assumption) | (with_reducible refine Ext.drewN ?_ _) | (with_reducible refine Ext.drew ?_) | (with_reducible refine Ext.alloc ?_ _) | (with_reducible refine Ext.setCell ?_ ?_ _) | (with_reducible refine Ext.setRow ?_ ?_ _) | (with_reducible exact Nat.le_refl _) | (with_reducible refine Ext.trans ?_ (by assumption)) | omega)
      have Z12 := X12.size
      have E12 : Ext w w12 := E11.trans X12
      have Ba := Ba.ext X12
      have gw := gw.ext X12
      have Bw := Bw.ext X12
      have Bx := Bx.ext X12
      have Bg := Bg.ext X12
      have gm := gm.ext X12
      clear hx12
      clear CBa LBa CBw LBw CBx LBx CBg LBg
      have CBa := Ba.cell; have LBa := Ba.lt
      have CBw := Bw.cell; have LBw := Bw.lt
      have CBx := Bx.cell; have LBx := Bx.lt
      have CBg := Bg.cell; have LBg := Bg.lt
      go_wp2_with fail
      refine (to_Store (h0.ext (by repeat' (first | (with_reducible exact Ext.refl _) | (with_reducible assumption) | (with_reducible refine Ext.drewN ?_ _) | (with_reducible refine Ext.drew ?_) | (with_reducible refine Ext.alloc ?_ _) | (with_reducible refine Ext.setCell ?_ ?_ _) | (with_reducible refine Ext.setRow ?_ ?_ _) | (with_reducible exact Nat.le_refl _) | (with_reducible refine Ext.trans ?_ (by assumption)) | omega))) q0 q1 q2 q3).mono ?_
      rintro e w13 ⟨_, rfl, hx13, Fy, gy⟩
      obtain ⟨ay0, ny0, ky0, ay1, ny1, ky1, ay4, ny4, ky4, ay5, ny5, ky5, rfl⟩ := gy.rd.shape
      have ly := gy.low; (try simp only [World.size_alloc] at ly)
      have X13 : Ext w12 w13 := by repeat' (first | (with_reducible exact Ext.refl _) | (with_reducible assumption) | (with_reducible refine Ext.drewN ?_ _) | (with_reducible refine Ext.drew ?_) | (with_reducible refine Ext.alloc ?_ _) | (with_reducible refine Ext.setCell ?_ ?_ _) | (with_reducible refine Ext.setRow ?_ ?_ _) | (with_reducible exact Nat.le_refl _) | (with_reducible refine Ext.trans ?_ (by assumption)) | omega)
      have Z13 := X13.size
      have E13 : Ext w w13 := E12.trans X13
      have Ba := Ba.ext X13
      have gw := gw.ext X13
      have Bw := Bw.ext X13
      have Bx := Bx.ext X13
      have Bg := Bg.ext X13
      have gm := gm.ext X13
      clear hx13
      clear CBa LBa CBw LBw CBx LBx CBg LBg
      have CBa := Ba.cell; have LBa := Ba.lt
      have CBw := Bw.cell; have LBw := Bw.lt
      have CBx := Bx.cell; have LBx := Bx.lt
      have CBg := Bg.cell; have LBg := Bg.lt
      go_wp2_with fail
      refine (shotBegun_k ((gy.rd).ext (by repeat' (first | (with_reducible exact Ext.refl _) | (with_reducible assumption) | (with_reducible refine Ext.drewN ?_ _) | (with_reducible refine Ext.drew ?_) | (with_reducible refine Ext.alloc ?_ _) | (with_reducible refine Ext.setCell ?_ ?_ _) | (with_reducible refine Ext.setRow ?_ ?_ _) | (with_reducible exact Nat.le_refl _) | (with_reducible refine Ext.trans ?_ (by assumption)) | omega)))).mono ?_
      rintro e w14 ⟨_, rfl, hx14, vh, rfl, Fh, gh⟩
      obtain ⟨ah0, nh0, kh0, ah1, nh1, kh1, ah4, nh4, kh4, ah5, nh5, kh5, rfl⟩ := gh.rd.shape
      have lh := gh.low; (try simp only [World.size_alloc] at lh)
      have X14 : Ext w13 w14 := by repeat' (first | (with_reducible exact Ext.refl _) | (with_reducible assumption) | (with_reducible refine Ext.drewN ?_ _) | (with_reducible refine Ext.drew ?_) | (with_reducible refine Ext.alloc ?_ _) | (with_reducible refine Ext.setCell ?_ ?_ _) | (with_reducible refine Ext.setRow ?_ ?_ _) | (with_reducible exact Nat.le_refl _) | (with_reducible refine Ext.trans ?_ (by assumption)) | omega)
      have Z14 := X14.size
      have E14 : Ext w w14 := E13.trans X14
      have Ba := Ba.ext X14
      have gw := gw.ext X14
      have Bw := Bw.ext X14
      have Bx := Bx.ext X14
      have Bg := Bg.ext X14
      have gm := gm.ext X14
      have gy := gy.ext X14
      clear hx14
      clear CBa LBa CBw LBw CBx LBx CBg LBg
      have CBa := Ba.cell; have LBa := Ba.lt
      have CBw := Bw.cell; have LBw := Bw.lt
      have CBx := Bx.cell; have LBx := Bx.lt
      have CBg := Bg.cell; have LBg := Bg.lt
      go_wp2_with fail
      refine (eq_Store ((gh.rd).ext (by repeat' (first | (with_reducible exact Ext.refl _) | (with_reducible assumption) | (with_reducible refine Ext.drewN ?_ _) | (with_reducible refine Ext.drew ?_) | (with_reducible refine Ext.alloc ?_ _) | (with_reducible refine Ext.setCell ?_ ?_ _) | (with_reducible refine Ext.setRow ?_ ?_ _) | (with_reducible exact Nat.le_refl _) | (with_reducible refine Ext.trans ?_ (by assumption)) | omega))) ((gw.rd).ext (by repeat' (first | (with_reducible exact Ext.refl _) | (with_reducible assumption) | (with_reducible refine Ext.drewN ?_ _) | (with_reducible refine Ext.drew ?_) | (with_reducible refine Ext.alloc ?_ _) | (with_reducible refine Ext.setCell ?_ ?_ _) | (with_reducible refine Ext.setRow ?_ ?_ _) | (with_reducible exact Nat.le_refl _) | (with_reducible refine Ext.trans ?_ (by assumption)) | omega)))).mono ?_
      rintro e w15 ⟨rfl, hx15⟩
      have X15 : Ext w14 w15 := by repeat' (first | (with_reducible exact Ext.refl _) | (with_reducible assumption) | (with_reducible refine Ext.drewN ?_ _) | (with_reducible refine Ext.drew ?_) | (with_reducible refine Ext.alloc ?_ _) | (with_reducible refine Ext.setCell ?_ ?_ _) | (with_reducible refine Ext.setRow ?_ ?_ _) | (with_reducible exact Nat.le_refl _) | (with_reducible refine Ext.trans ?_ (by assumption)) | omega)
      have Bh : Blk w15 w14.heap.size 58 #[.slice ah0 nh0 kh0, .slice ah1 nh1 kh1, .int .i64 (sbD S).State.Index, .int .i64 (sbD S).State.Time, .slice ah4 nh4 kh4, .slice ah5 nh5 kh5, .int .i64 (sbD S).State.Lease.Holder, .int .i64 (sbD S).State.Lease.Epoch, .int .i64 (sbD S).State.Lease.Until, .int .i64 (sbD S).Num, .int .i64 (sbD S).Last, .int .i64 (sbD S).Busy] := (Blk.new w14 58 #[.slice ah0 nh0 kh0, .slice ah1 nh1 kh1, .int .i64 (sbD S).State.Index, .int .i64 (sbD S).State.Time, .slice ah4 nh4 kh4, .slice ah5 nh5 kh5, .int .i64 (sbD S).State.Lease.Holder, .int .i64 (sbD S).State.Lease.Epoch, .int .i64 (sbD S).State.Lease.Until, .int .i64 (sbD S).Num, .int .i64 (sbD S).Last, .int .i64 (sbD S).Busy]).ext hx15
      have MBh := Bh.lt
      have Z15 := X15.size
      have E15 : Ext w w15 := E14.trans X15
      have Ba := Ba.ext X15
      have gw := gw.ext X15
      have Bw := Bw.ext X15
      have Bx := Bx.ext X15
      have Bg := Bg.ext X15
      have gm := gm.ext X15
      have gh := gh.ext X15
      clear hx15
      clear CBa LBa CBw LBw CBx LBx CBg LBg
      have CBa := Ba.cell; have LBa := Ba.lt
      have CBw := Bw.cell; have LBw := Bw.lt
      have CBx := Bx.cell; have LBx := Bx.lt
      have CBg := Bg.cell; have LBg := Bg.lt
      have CBh := Bh.cell; have LBh := Bh.lt
      go_wp2_with fail
      refine (held_Store (gm.ext (by repeat' (first | (with_reducible exact Ext.refl _) | (with_reducible assumption) | (with_reducible refine Ext.drewN ?_ _) | (with_reducible refine Ext.drew ?_) | (with_reducible refine Ext.alloc ?_ _) | (with_reducible refine Ext.setCell ?_ ?_ _) | (with_reducible refine Ext.setRow ?_ ?_ _) | (with_reducible exact Nat.le_refl _) | (with_reducible refine Ext.trans ?_ (by assumption)) | omega))) (by omega) (by have := nb; omega)).mono ?_
      rintro e w16 ⟨rfl, hx16⟩
      rw [← HN.out]
      have X16 : Ext w15 w16 := by repeat' (first | (with_reducible exact Ext.refl _) | (with_reducible assumption) | (with_reducible refine Ext.drewN ?_ _) | (with_reducible refine Ext.drew ?_) | (with_reducible refine Ext.alloc ?_ _) | (with_reducible refine Ext.setCell ?_ ?_ _) | (with_reducible refine Ext.setRow ?_ ?_ _) | (with_reducible exact Nat.le_refl _) | (with_reducible refine Ext.trans ?_ (by assumption)) | omega)
      have Z16 := X16.size
      have E16 : Ext w w16 := E15.trans X16
      have Ba := Ba.ext X16
      have gw := gw.ext X16
      have Bw := Bw.ext X16
      have Bx := Bx.ext X16
      have Bg := Bg.ext X16
      have gm := gm.ext X16
      have gh := gh.ext X16
      have Bh := Bh.ext X16
      clear hx16
      clear CBa LBa CBw LBw CBx LBx CBg LBg CBh LBh
      have CBa := Ba.cell; have LBa := Ba.lt
      have CBw := Bw.cell; have LBw := Bw.lt
      have CBx := Bx.cell; have LBx := Bx.lt
      have CBg := Bg.cell; have LBg := Bg.lt
      have CBh := Bh.cell; have LBh := Bh.lt
      go_wp2
      go_ret
      exact ⟨rfl, E16⟩
end Go.Proofs.YthdiaijiokoifaaGreat

-- The statement FnExactShotBegun: for every input the law returns true.
namespace Go.Proofs.YthdiaijiokoifaaGreat.fnExactShotBegun
open Go.ChangeShapes Go.WideShapes Go.ChangeAt Go.RowKit Go.G8
open Go.Proofs.YthdiaijiokoifaaGreat.facts (b2)

set_option maxRecDepth 100000 in
theorem lifted (os : Os) (started : os.Started) (H : Type) (enc : TypeId × Value → H) :
    ReturnsInHanded {} Tryz.checked os 6 .any (Rows.fnExactShotBegunSpec.pre6 enc Tryz.prog Tryz.f6 Rows.fnExactShotBegunRow.domain false) (Rows.fnExactShotBegunSpec.post enc Tryz.prog Tryz.f6 false true false false) := by
  refine returnsInHanded_of_change (C := Tryz.checked) own started (by kernel_rfl) Tryz.func6
    (ChangeSpec.witness6 (enc := enc) (C := Tryz.checked) false ⟨#[], #[.agg #[.slice none 0 0, .slice none 0 0, .int .i64 0, .int .i64 0, .slice none 0 0, .slice none 0 0, .int .i64 0, .int .i64 0, .int .i64 0, .int .i64 0, .int .i64 0, .int .i64 0]], []⟩ 8 (by kernel_rfl) (by kernel_rfl) (by kernel_rfl) (by kernel_rfl)) ?_
  intro W base args ds gs before hval0 hW _ _
  have hval : ∀ (j : Nat) t v, Tryz.f6.params[j]? = some t → args[j]? = some v → Value.okWide Tryz.prog W .any base t v := hval0
  have hW' := hW
  obtain ⟨p, q, hA0, hV, rfl, hfz, hnd⟩ := hW
  have hA : DataW.TrodAll enc Tryz.prog W 0 (fun _ => true) true Tryz.f6.params.toList args.toList ds p := hA0
  rw [Tryz.params6] at hA hval
  obtain ⟨v0, vs0, d0, ds0, p0, q0, hargs, rfl, rfl, h0, r0⟩ := trodAll_cons hA
  obtain ⟨rfl, rfl, rfl⟩ := trodAll_nil r0
  obtain rfl : args = #[v0] := by cases args; simp_all
  obtain ⟨rfl, rfl⟩ := trodVars_none hV
  have k0 := h0
  have lt0 : ∀ x ∈ p0, x.block < W.heap.size := by obtain ⟨m, hm⟩ := k0; exact DataW.trod_lt m _ _ _ hm
  have hv0 := hval 0 51 v0 rfl rfl
  unfold Value.okWide at hv0
  rw [Tryz.underlying51] at hv0
  obtain ⟨cs0, rfl, _, _⟩ := hv0
  obtain ⟨m0, hm0⟩ := h0
  obtain ⟨s0_0, l0_0, s0_1, l0_1, c0_2, c0_3, s0_4, l0_4, s0_5, l0_5, c0_6, c0_7, c0_8, c0_9, c0_10, c0_11, e0, g0_0, g0_1, g0_4, g0_5⟩ := rl_Store hm0
  obtain rfl : cs0 = #[s0_0, s0_1, .int .i64 c0_2, .int .i64 c0_3, s0_4, s0_5, .int .i64 c0_6, .int .i64 c0_7, .int .i64 c0_8, .int .i64 c0_9, .int .i64 c0_10, .int .i64 c0_11] := by cases cs0; simp_all [Value.cells]
  clear hA0 hval0
  refine (law_ShotBegun W _ _ _ _ _ _ _ _ _ _ _ _ _ _ _ _ g0_0 g0_1 g0_4 g0_5).mono fun e W' ⟨he, bel0⟩ => ?_
  have bel : Below W.heap.size W W' := bel0
  subst he
  exact ⟨_, rfl, _, _, _, [], _, [], hW', trodAll_mk1 (shut_bool Tryz.underlying4 _), (trodAll_cons_mk (Below.trod laidOut (by kernel_rfl) (of_decide_eq_true (by kernel_rfl)) k0 bel lt0) trodAll_mk0), rfl, bel.frame _, fun h => by cases h⟩

theorem k0 : (Rows.fnExactShotBegunRow.wf (OpenSpec.ofChange Rows.fnExactShotBegunSpec)) = true := by kernel_rfl
theorem k1 : (laidOutB Tryz.checked.prog) = true := facts.k1
theorem k2 : (mapsRowed Tryz.checked.prog) = true := facts.k2
theorem k3 : (Tryz.f6.params.all (Tryz.checked.prog.readableRec ·)) = true := by kernel_rfl
theorem k4 : (namedTie Tryz.checked.prog Rows.fnExactShotBegunRow.named Rows.fnExactShotBegunSpec.vars) = true := by kernel_rfl
theorem k5 : ((Rows.fnExactShotBegunRow.stops == [])) = true := by kernel_rfl
theorem k6 : ((Tryz.checked.prog.stops == [])) = true := facts.k6
theorem k7 : ((Rows.fnExactShotBegunRow.knobs == [])) = true := by kernel_rfl
theorem k8 : ((Tryz.checked.prog.stopKnobs == [])) = true := facts.k8
theorem k9 : ((Rows.fnExactShotBegunRow.inPlace == Tryz.checked.prog.inPlace 6)) = true := by kernel_rfl
theorem k10 : ((Rows.fnExactShotBegunRow.unfollowed == Tryz.checked.prog.unfollowed 6)) = true := by kernel_rfl
theorem k11 : ((Rows.fnExactShotBegunRow.recurses == Tryz.checked.prog.recurses 6)) = true := by kernel_rfl
theorem k12 : ((Rows.fnExactShotBegunRow.named == Tryz.checked.prog.varsNamed 6)) = true := by kernel_rfl
theorem k13 : ((Rows.fnExactShotBegunRow.maps == (Tryz.f6.params.toList ++ Rows.fnExactShotBegunSpec.plain.varTypes Tryz.checked.prog).any (Tryz.checked.prog.mapsRec ·))) = true := by kernel_rfl
theorem k14 : ((Rows.fnExactShotBegunRow.ifaces == (Tryz.f6.params.toList ++ Rows.fnExactShotBegunSpec.plain.varTypes Tryz.checked.prog).any (Tryz.checked.prog.ifacesRec ·))) = true := by kernel_rfl
theorem k15 : ((Rows.fnExactShotBegunRow.mapsOut == Tryz.checked.prog.mapsAmong Tryz.f6.resultTypes.toList)) = true := by kernel_rfl
theorem k16 : ((Rows.fnExactShotBegunRow.loops == (Tryz.f6.params.toList ++ Rows.fnExactShotBegunSpec.plain.varTypes Tryz.checked.prog).any (Tryz.checked.prog.loopsFrom ·))) = true := by kernel_rfl
theorem k17 : ((Rows.fnExactShotBegunRow.wideKeys == (Tryz.f6.params.toList ++ Rows.fnExactShotBegunSpec.plain.varTypes Tryz.checked.prog ++ Tryz.f6.resultTypes.toList).any (Tryz.checked.prog.wideKeysFrom ·))) = true := by kernel_rfl
theorem k18 : (Rows.fnExactShotBegunSpec.vars.all (Tryz.checked.prog.varReadable ·)) = true := by kernel_rfl
theorem k19 : (Tryz.f6.resultTypes.all (fun t => Tryz.checked.prog.readableRec t && decide (t < Tryz.checked.prog.types.size))) = true := by kernel_rfl
theorem k20 : ((Rows.fnExactShotBegunRow.ifacesOut == Tryz.f6.resultTypes.toList.any (Tryz.checked.prog.ifacesRec ·))) = true := by kernel_rfl
theorem k21 : ((Rows.fnExactShotBegunRow.loopsOut == Tryz.f6.resultTypes.toList.any (Tryz.checked.prog.loopsFrom ·))) = true := by kernel_rfl
theorem k22 : ((Rows.fnExactShotBegunRow.plainKeys == Tryz.checked.prog.plainKeys)) = true := facts.k22
theorem k23 : (Rows.fnExactShotBegunRow.shortTexts.isNone) = true := by kernel_rfl
theorem k24 : (Tryz.checked.prog.stopsHeard) = true := facts.k24
theorem k25 : (Tryz.checked.prog.mayEnter) = true := facts.k25
theorem k26 : ((Rows.fnExactShotBegunRow.lifted == Tryz.checked.prog.liftsFinal)) = true := facts.k26
theorem k27 : ((Tryz.checked.prog.make == some Rows.fnExactShotBegunRow.make)) = true := facts.k27
theorem k28 : ((Rows.fnExactShotBegunRow.kinds == (if Rows.fnExactShotBegunRow.domain.isEmpty then [] else Tryz.f6.params.toList.map fun t => match Tryz.checked.prog.underlying t with | some (.int k) => some k | _ => none))) = true := by kernel_rfl
theorem k29 : ((Rows.fnExactShotBegunRow.pinned == Rows.fnExactShotBegunRow.pinnedBy)) = true := by kernel_rfl
theorem k30 : ((Rows.fnExactShotBegunRow.veiled == (Tryz.f6.params.toList ++ Rows.fnExactShotBegunSpec.plain.varTypes Tryz.checked.prog ++ Tryz.f6.resultTypes.toList).any (Tryz.checked.prog.veiledRec ·))) = true := by kernel_rfl
theorem k31 : (Rows.fnExactShotBegunRow.veiledFits Tryz.checked.prog Tryz.f6.params.toList (Tryz.f6.params.toList ++ Rows.fnExactShotBegunSpec.plain.varTypes Tryz.checked.prog ++ Tryz.f6.resultTypes.toList)) = true := by kernel_rfl
set_option maxRecDepth 100000 in
theorem closed : joinedFacts Tryz.checked.prog 6 Tryz.f6 Rows.fnExactShotBegunSpec Rows.fnExactShotBegunRow = true := by
  unfold joinedFacts
  exact (b2 (b2 (b2 (b2 (b2 (b2 (b2 (b2 (b2 (b2 (b2 (b2 (b2 (b2 (b2 (b2 (b2 (b2 (b2 (b2 (b2 (b2 (b2 (b2 (b2 (b2 (b2 (b2 (b2 (b2 (b2 k0 k1) k2) k3) k4) k5) k6) k7) k8) k9) k10) k11) k12) k13) k14) k15) k16) k17) k18) k19) k20) k21) k22) k23) k24) k25) k26) k27) k28) k29) k30) k31)

theorem proved : Rows.FnExactShotBegunSaid :=
  OpenClaim.holds_of_wide 6 Tryz.f6 rfl rfl rfl rfl rfl rfl rfl ⟨rfl, rfl, rfl, rfl, rfl⟩ rfl rfl rfl rfl rfl (by as_aux_lemma => kernel_rfl) Tryz.func6 closed
    (of_decide_eq_true (by as_aux_lemma => kernel_rfl)) (by as_aux_lemma => (unfold Func.isWrapper; rw [if_neg (of_decide_eq_false (by kernel_rfl))]; exact ⟨rfl, rfl⟩))
    (fun os started H enc _ => lifted os started H enc)
end Go.Proofs.YthdiaijiokoifaaGreat.fnExactShotBegun
