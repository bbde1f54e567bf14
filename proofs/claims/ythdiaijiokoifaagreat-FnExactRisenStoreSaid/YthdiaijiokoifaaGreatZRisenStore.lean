/- The statement FnExactRisenStore: the walk and the row. -/
import Derived.Test.YthdiaijiokoifaaGreatGl
import Derived.Test.YthdiaijiokoifaaGreatGc
-- RisenStore of both.
set_option linter.unusedSimpArgs false
set_option linter.unusedVariables false
namespace Go.Proofs.YthdiaijiokoifaaGreat
open Go.RowKit Go.G8

end Go.Proofs.YthdiaijiokoifaaGreat
namespace Go.G8
open Go.RowKit
open Go.Proofs.YthdiaijiokoifaaGreat
/-- What RisenStore hands back. -/
noncomputable def riOk (s : DStore) : Bool := shelfOk s.Disk && decide (s.Disk.Wait.length = 0)
noncomputable def riD (s : DStore) : DStore := if riOk s then (if newOk s.Disk then ⟨wipedSlot s.Disk (1 - newAt s.Disk), (newShot s.Disk).State, (newShot s.Disk).Num, (newShot s.Disk).State.Index, 0⟩ else ⟨wipedSlot (wipedSlot s.Disk 0) 1, ⟨0, 0, [], [], ⟨0, 0, 0⟩⟩, 0, 0, 0⟩) else ⟨⟨[], []⟩, ⟨0, 0, [], [], ⟨0, 0, 0⟩⟩, 0, 0, 0⟩
end Go.G8
namespace Go.Proofs.YthdiaijiokoifaaGreat
open Go.RowKit Go.G8
theorem OwStore.of {B : Nat} {w : World} {t0 t1 t4 t5 : Value} {d : DDisk} {i t : Int} {p : List DPair} {j : List DJob} {a b c num last busy : Int} (h : IsDisk B w (.agg #[t0, t1]) d) (h4 : OwnI B 139 2 w t4 (flPair p)) (h5 : OwnI B 123 5 w t5 (flJob j)) :
    ∃ F, OwStore B w (.agg #[t0, t1, .int .i64 i, .int .i64 t, t4, t5, .int .i64 a, .int .i64 b, .int .i64 c, .int .i64 num, .int .i64 last, .int .i64 busy]) ⟨d, ⟨i, t, p, j, ⟨a, b, c⟩⟩, num, last, busy⟩ F := by
  obtain ⟨u0, u1, s0, s1, e, g0, g1, gd⟩ := h
  injection e with e
  injection e with e
  injection e with e0 e
  injection e with e1 e
  subst e0; subst e1
  exact ⟨_, _, _, _, _, s0, s1, rfl, g0, g1, h4, h5, gd, rfl⟩
theorem newAt_is (d : DDisk) : newAt d = 0 ∨ newAt d = 1 := by
  unfold newAt
  split
  · exact .inr rfl
  · exact .inl rfl
theorem wipedSlot_r {w : World} {v : Value} {d : DDisk} (h : RdDisk w v d) (c : Int) : Calls Tryz.prog 70 #[v, .int .i64 c] w (Ret w fun r w' => IsDisk w.heap.size w' r (wipedSlot d c)) := by
  obtain ⟨t0, t1, rfl, h0, h1⟩ := h
  exact wipedSlot_c w t0 d.Kept t1 d.Wait c h0 h1
theorem sWipedSlot_r {w : World} {v : Value} {d : DDisk} (h : RdDisk w v d) (c : Int) : Calls Tryz.prog 68 #[v, .int .i64 c] w (Ret w fun r w' => IsDisk w.heap.size w' r (wipedSlot d c)) := by
  obtain ⟨t0, t1, rfl, h0, h1⟩ := h
  exact sWipedSlot_c w t0 d.Kept t1 d.Wait c h0 h1
set_option maxHeartbeats 4000000 in
set_option maxRecDepth 100000 in
theorem safeIn_r {w : World} {v : Value} {d : DDisk} (h : RdDisk w v d) (hd : diskOk d = true) : Calls Tryz.prog 67 #[v] w (RetV w (.bool (decide (d.Wait.length = 0)))) := by
  have HD := Lib.hid h
  have HOK := Lib.hid hd
  obtain ⟨t0, t1, rfl, h0, h1⟩ := h
  obtain ⟨a0, n0, k0, rfl⟩ := h0.shape
  obtain ⟨a1, k1, rfl, hc, hm, _⟩ := Nest.writes h1
  unfold maxLen at hm
  clear h0 h1 hd
  have E1 : Ext w (w.alloc (.cells #[.slice a0 n0 k0, .slice a1 d.Wait.length k1] 56)) := (Ext.refl _).alloc _
  have K1 : Blk (w.alloc (.cells #[.slice a0 n0 k0, .slice a1 d.Wait.length k1] 56)) w.heap.size 56 #[.slice a0 n0 k0, .slice a1 d.Wait.length k1] := Blk.new _ _ _
  go_enter Tryz.func67, Tryz.ntmps67
  go_wp2_with fail
  refine (sDiskOk_r (HD.out.ext E1)).mono ?_
  rintro e9 w2 ⟨rfl, hx2⟩
  have K2 := K1.ext hx2
  have C2 := K2.cell; have L2 := K2.lt
  rw [HOK.out]
  by_cases hq : d.Wait.length = 0
  · have q1 : decide (d.Wait.length = 0) = true := decide_eq_true hq
    have HQ := Lib.hid q1
    have q2 : (d.Wait.length == 0) = true := beq_iff_eq.2 hq
    have HQ2 := Lib.hid hq
    clear q1 hq
    go_wp2_with fail
    go_ret
    exact ⟨by (rw [HQ.out]; first | rfl | (simp [HQ2.out]; done)), E1.trans hx2⟩
  · have q1 : decide (d.Wait.length = 0) = false := decide_eq_false hq
    have HQ := Lib.hid q1
    have HQ2 := Lib.hid hq
    clear q1
    go_wp2_with fail
    go_ret
    exact ⟨by (rw [HQ.out]; first | rfl | (simp [HQ2.out]; done)), E1.trans hx2⟩
set_option maxHeartbeats 4000000 in
set_option maxRecDepth 100000 in
theorem risenStore_k {w : World} {v : Value} {s : DStore} (h : RdStore w v s) : Calls Tryz.prog 25 #[v] w (Ret w fun r w' => ∃ u, r = .tuple #[u, .bool (riOk s)] ∧ ∃ F, OwStore w.heap.size w' u (riD s) F) := by
  obtain ⟨a0, n0, k0, a1, k1, a4, n4, k4, a5, n5, k5, rfl, hwl⟩ := h.wait
  have HDD := Lib.hid h.disk.1
  clear h
  obtain ⟨L, hL⟩ : ∃ L, L = s.Disk.Wait.length := ⟨_, rfl⟩
  rw [← hL] at HDD hwl ⊢
  have HL := Lib.hid hL
  clear hL
  obtain ⟨W1, hW1⟩ : ∃ W1, W1 = (w.alloc (.cells #[.slice a0 n0 k0, .slice a1 L k1, .int .i64 s.State.Index, .int .i64 s.State.Time, .slice a4 n4 k4, .slice a5 n5 k5, .int .i64 s.State.Lease.Holder, .int .i64 s.State.Lease.Epoch, .int .i64 s.State.Lease.Until, .int .i64 s.Num, .int .i64 s.Last, .int .i64 s.Busy] 58)).alloc (.cells #[.slice none 0 0, .slice none 0 0, .int .i64 0, .int .i64 0, .slice none 0 0, .slice none 0 0, .int .i64 0, .int .i64 0, .int .i64 0, .int .i64 0, .int .i64 0, .int .i64 0] 58) := ⟨_, rfl⟩
  have E1 : Ext w W1 := by rw [hW1]; exact ((Ext.refl _).alloc _).alloc _
  have KS1 : Blk W1 w.heap.size 58 #[.slice a0 n0 k0, .slice a1 L k1, .int .i64 s.State.Index, .int .i64 s.State.Time, .slice a4 n4 k4, .slice a5 n5 k5, .int .i64 s.State.Lease.Holder, .int .i64 s.State.Lease.Epoch, .int .i64 s.State.Lease.Until, .int .i64 s.Num, .int .i64 s.Last, .int .i64 s.Busy] := by rw [hW1]; exact (Blk.new _ _ _).alloc _
  have KR1 : Blk W1 (w.heap.size + 1) 58 #[.slice none 0 0, .slice none 0 0, .int .i64 0, .int .i64 0, .slice none 0 0, .slice none 0 0, .int .i64 0, .int .i64 0, .int .i64 0, .int .i64 0, .int .i64 0, .int .i64 0] := by rw [hW1]; exact Blk.new2 _ _ _ _
  have hz1 : w.heap.size + 1 < W1.heap.size := by rw [hW1]; simp
  have HW1 := Lib.hid hW1
  clear hW1
  go_enter Tryz.func25, Tryz.ntmps25
  go_wp2_with fail
  rw [← HW1.out]
  have CS1 := KS1.cell; have LS1 := KS1.lt
  go_wp2_with fail
  refine (shelfOk_r (HDD.out.ext E1)).mono ?_
  rintro e9 w2 ⟨rfl, hx2⟩
  have E2 : Ext w w2 := E1.trans hx2
  have hz2 := hx2.size
  have KS2 := KS1.ext hx2; have KR2 := KR1.ext hx2
  clear CS1 LS1
  have CS2 := KS2.cell; have LS2 := KS2.lt; have CR2 := KR2.cell; have FR2 := KR2.frozen; have LR2 := KR2.lt
  cases hsh : shelfOk s.Disk
  · have e1 : riOk s = false := by simp [riOk, hsh]
    have e2 : riD s = ⟨⟨[], []⟩, ⟨0, 0, [], [], ⟨0, 0, 0⟩⟩, 0, 0, 0⟩ := by simp [riD, e1]
    have HA1 := Lib.hid e1; have HA2 := Lib.hid e2
    clear e1 e2
    go_wp2_with fail
    refine bodyPost_ret (by simp [results, Tryz.results25, go_sem, CR2, FR2, LR2]; try rfl) rfl ?_
    refine ⟨_, rfl, by repeat' (first | (with_reducible exact Ext.refl _) | (with_reducible assumption) | (with_reducible refine Ext.drewN ?_ _) | (with_reducible refine Ext.drew ?_) | (with_reducible refine Ext.alloc ?_ _) | (with_reducible refine Ext.setCell ?_ ?_ _) | (with_reducible refine Ext.setRow ?_ ?_ _) | (with_reducible exact Nat.le_refl _) | (with_reducible refine Ext.trans ?_ (by assumption)) | omega), _, by (rw [HA1.out]; try rfl), ?_⟩
    rw [HA2.out]
    exact OwStore.of (IsDisk.nil _ _) (OwnI.nil _ _ _ _) (OwnI.nil _ _ _ _)

  have HSH := Lib.hid hsh
  have HDK := Lib.hid (shelfOk_disk hsh)
  clear hsh
  skip


  by_cases hwt : L = 0
  rotate_left
  · have e1 : riOk s = false := by simp only [riOk, ← HL.out]; simp [hwt]
    have e2 : riD s = ⟨⟨[], []⟩, ⟨0, 0, [], [], ⟨0, 0, 0⟩⟩, 0, 0, 0⟩ := by simp [riD, e1]
    have hw0 : decide (0 < L) = true := by simp; omega
    have hw1 : decide (L = 0) = false := by simp; omega
    skip
    have HA1 := Lib.hid e1; have HA2 := Lib.hid e2
    clear e1 e2
    go_wp2_with fail
    refine bodyPost_ret (by simp [results, Tryz.results25, go_sem, CR2, FR2, LR2]; try rfl) rfl ?_
    refine ⟨_, rfl, by repeat' (first | (with_reducible exact Ext.refl _) | (with_reducible assumption) | (with_reducible refine Ext.drewN ?_ _) | (with_reducible refine Ext.drew ?_) | (with_reducible refine Ext.alloc ?_ _) | (with_reducible refine Ext.setCell ?_ ?_ _) | (with_reducible refine Ext.setRow ?_ ?_ _) | (with_reducible exact Nat.le_refl _) | (with_reducible refine Ext.trans ?_ (by assumption)) | omega), _, by (rw [HA1.out]; try rfl), ?_⟩
    rw [HA2.out]
    exact OwStore.of (IsDisk.nil _ _) (OwnI.nil _ _ _ _) (OwnI.nil _ _ _ _)

  have hok : riOk s = true := by simp only [riOk, HSH.out, ← HL.out]; simp [hwt]
  have HOK := Lib.hid hok
  have hw0 : decide (0 < L) = false := by simp; omega
  have hw1 : decide (L = 0) = true := by simp; omega
  skip
  clear hok hwl hwt hw1
  go_wp2_with fail
  refine (newestShot_k (HDD.out.ext E2)).mono ?_
  rintro e9 w3 ⟨_, rfl, hx3, u, rfl, F9, gs⟩
  obtain ⟨N, hN⟩ : ∃ N, N = newShot s.Disk := ⟨_, rfl⟩
  obtain ⟨A, hA⟩ : ∃ A, A = newAt s.Disk := ⟨_, rfl⟩
  rw [← hN] at gs
  rw [← hA]
  have hat := newAt_is s.Disk
  rw [← hA] at hat
  obtain ⟨c3, m3, j3, c4, m4, j4, rfl⟩ := gs.rd.shape
  have hz3 := hx3.size
  obtain ⟨w4, hW4⟩ : ∃ w4, w4 = w3.alloc (.cells #[.int .i64 N.Num, .int .i64 N.State.Index, .int .i64 N.State.Time, .slice c3 m3 j3, .slice c4 m4 j4, .int .i64 N.State.Lease.Holder, .int .i64 N.State.Lease.Epoch, .int .i64 N.State.Lease.Until] 102) := ⟨_, rfl⟩
  have X4 : Ext w2 w4 := by rw [hW4]; exact hx3.alloc _
  have KN4 : Blk w4 w3.heap.size 102 #[.int .i64 N.Num, .int .i64 N.State.Index, .int .i64 N.State.Time, .slice c3 m3 j3, .slice c4 m4 j4, .int .i64 N.State.Lease.Holder, .int .i64 N.State.Lease.Epoch, .int .i64 N.State.Lease.Until] := by rw [hW4]; exact Blk.new _ _ _
  have gs4 : OwShot w2.heap.size w4 (.agg #[.int .i64 N.Num, .int .i64 N.State.Index, .int .i64 N.State.Time, .slice c3 m3 j3, .slice c4 m4 j4, .int .i64 N.State.Lease.Holder, .int .i64 N.State.Lease.Epoch, .int .i64 N.State.Lease.Until]) N F9 := gs.ext (by rw [hW4]; exact (Ext.refl _).alloc _)
  have HW4 := Lib.hid hW4
  have hz4 : w4.heap.size = w3.heap.size + 1 := by rw [hW4]; simp
  have HZ4 := Lib.hid hz4
  have hz4' : w3.heap.size < w4.heap.size := by omega
  have E4 : Ext w w4 := E2.trans X4
  have KS4 := KS2.ext X4; have KR4 := KR2.ext X4
  have KS3 := KS2.ext hx3
  clear hW4 hz4 CS2 LS2 CR2 FR2 LR2
  have CS3 := KS3.cell; have LS3 := KS3.lt
  cases hO : newOk s.Disk
  · have e2 : riD s = ⟨wipedSlot (wipedSlot s.Disk 0) 1, ⟨0, 0, [], [], ⟨0, 0, 0⟩⟩, 0, 0, 0⟩ := by simp [riD, HOK.out, hO]
    have HA2 := Lib.hid e2
    clear e2 hO hN hA hat
    go_wp2_with fail
    rw [← HW4.out]
    clear CS3 LS3 KS3
    have CS4 := KS4.cell; have LS4 := KS4.lt
    refine (wipedSlot_r (HDD.out.ext E4) 0).mono ?_
    rintro e9 w5 ⟨_, rfl, hx5, gd⟩
    obtain ⟨b0, m0, j0, b1, m1, j1, rfl⟩ := gd.shape
    have E5 := E4.trans hx5
    clear CS4 LS4
    go_wp2_with fail
    refine (wipedSlot_r gd.rd 1).mono ?_
    rintro e9 w6 ⟨_, rfl, hx6, ge⟩
    obtain ⟨b0, m0, j0, b1, m1, j1, rfl⟩ := ge.shape
    have E6 := E5.trans hx6
    have KR6 := (KR4.ext hx5).ext hx6
    have CR6 := KR6.cell; have FR6 := KR6.frozen; have LR6 := KR6.lt
    have hz5 := hx5.size; have hz6 := hx6.size
    go_wp2_with fail
    refine bodyPost_ret (by simp [results, Tryz.results25, go_sem, CR6, FR6, LR6]; try rfl) rfl ?_
    refine ⟨_, rfl, by repeat' (first | (with_reducible exact Ext.refl _) | (with_reducible assumption) | (with_reducible refine Ext.drewN ?_ _) | (with_reducible refine Ext.drew ?_) | (with_reducible refine Ext.alloc ?_ _) | (with_reducible refine Ext.setCell ?_ ?_ _) | (with_reducible refine Ext.setRow ?_ ?_ _) | (with_reducible exact Nat.le_refl _) | (with_reducible refine Ext.trans ?_ (by assumption)) | omega), _, by (rw [HOK.out]; try rfl), ?_⟩
    rw [HA2.out]
    exact OwStore.of (IsDisk.mono (IsDisk.keep ge (by repeat' (first | (with_reducible exact Chg.refl _ _) | (with_reducible refine Chg.drewN ?_ _) | (with_reducible refine Chg.drew ?_) | (with_reducible refine Chg.alloc ?_ _) | (with_reducible refine Chg.setLow ?_ (by omega) _) | (with_reducible refine Chg.setNew ?_ (by omega) _) | (with_reducible refine Chg.setRow ?_ (by omega) _) | (with_reducible refine Chg.ext ?_ (by assumption)) | omega))) (by omega)) (OwnI.nil _ _ _ _) (OwnI.nil _ _ _ _)
  have e2 : riD s = ⟨wipedSlot s.Disk (1 - A), N.State, N.Num, N.State.Index, 0⟩ := by simp [riD, HOK.out, hO, hN, hA]
  have HA2 := Lib.hid e2
  clear e2 hO hN hA
  obtain ⟨A2, hA2⟩ : ∃ A2, A2 = 1 - A := ⟨_, rfl⟩
  have hsub : IntKind.i64.wrap A2 = A2 := by rw [IntKind.wrap_i64]; omega
  have hsub2 : (1 : Int) - A = A2 := hA2.symm
  rw [← hA2] at HA2
  clear hA2 hat
  go_wp2_with fail
  rw [← HW4.out]
  clear CS3 LS3 KS3
  have hn1 : w.heap.size ∉ [w.heap.size + 1] := by simp
  have hn2 : w3.heap.size ∉ [w.heap.size + 1] := by simp; omega
  have ya0 : ∀ w', Upd w4 w' [w.heap.size + 1] → w'.cell? ⟨w.heap.size, 0, none⟩ = some (.slice a0 n0 k0) := fun w' hw => (KS4.upd hw hn1).cell 0
  have ya1 : ∀ w', Upd w4 w' [w.heap.size + 1] → w'.cell? ⟨w.heap.size, 1, none⟩ = some (.slice a1 L k1) := fun w' hw => (KS4.upd hw hn1).cell 1
  have yb0 : ∀ w', Upd w4 w' [w.heap.size + 1] → w'.cell? ⟨w3.heap.size, 0, none⟩ = some (.int .i64 N.Num) := fun w' hw => (KN4.upd hw hn2).cell 0
  have yb1 : ∀ w', Upd w4 w' [w.heap.size + 1] → w'.cell? ⟨w3.heap.size, 1, none⟩ = some (.int .i64 N.State.Index) := fun w' hw => (KN4.upd hw hn2).cell 1
  have yb2 : ∀ w', Upd w4 w' [w.heap.size + 1] → w'.cell? ⟨w3.heap.size, 2, none⟩ = some (.int .i64 N.State.Time) := fun w' hw => (KN4.upd hw hn2).cell 2
  have yb3 : ∀ w', Upd w4 w' [w.heap.size + 1] → w'.cell? ⟨w3.heap.size, 3, none⟩ = some (.slice c3 m3 j3) := fun w' hw => (KN4.upd hw hn2).cell 3
  have yb4 : ∀ w', Upd w4 w' [w.heap.size + 1] → w'.cell? ⟨w3.heap.size, 4, none⟩ = some (.slice c4 m4 j4) := fun w' hw => (KN4.upd hw hn2).cell 4
  have yb5 : ∀ w', Upd w4 w' [w.heap.size + 1] → w'.cell? ⟨w3.heap.size, 5, none⟩ = some (.int .i64 N.State.Lease.Holder) := fun w' hw => (KN4.upd hw hn2).cell 5
  have yb6 : ∀ w', Upd w4 w' [w.heap.size + 1] → w'.cell? ⟨w3.heap.size, 6, none⟩ = some (.int .i64 N.State.Lease.Epoch) := fun w' hw => (KN4.upd hw hn2).cell 6
  have yb7 : ∀ w', Upd w4 w' [w.heap.size + 1] → w'.cell? ⟨w3.heap.size, 7, none⟩ = some (.int .i64 N.State.Lease.Until) := fun w' hw => (KN4.upd hw hn2).cell 7
  clear hn1 hn2

  refine wp_region_held_drew (S := fun w' => Upd w4 w' [w.heap.size + 1]) (by kernel_rfl) (by (try dsimp only); exact ((Upd.refl w4 [w.heap.size + 1]).ext (Ext.drew (Ext.refl _)))) (fun hHeld => ?_)
  refine wpAnyH_take (i := 0) (v := ?_) rfl (by kernel_rfl) (by kernel_rfl) (by kernel_rfl) (fun _ _ _ h => h) (Or.inl ⟨by rfl, ?_⟩) (by assumption) ?_
  rotate_left
  focus (intro w hSw; (try dsimp only at hSw); go_simp <;> with_reducible rfl)
  (try simp only [List.getElem_toArray, List.getElem_cons_zero, List.getElem_cons_succ, Act.put, List.setIfInBounds_toArray, List.set_cons_zero, List.set_cons_succ])
  refine wpAnyH_take (i := 1) (v := ?_) rfl (by kernel_rfl) (by kernel_rfl) (by kernel_rfl) (fun _ _ _ h => h) (Or.inl ⟨by rfl, ?_⟩) (by assumption) ?_
  rotate_left
  focus (intro w hSw; (try dsimp only at hSw); go_simp <;> with_reducible rfl)
  (try simp only [List.getElem_toArray, List.getElem_cons_zero, List.getElem_cons_succ, Act.put, List.setIfInBounds_toArray, List.set_cons_zero, List.set_cons_succ])
  refine wpAnyH_take (i := 2) (v := ?_) rfl (by kernel_rfl) (by kernel_rfl) (by kernel_rfl) (fun _ _ _ h => h) (Or.inl ⟨by rfl, ?_⟩) (by assumption) ?_
  rotate_left
  focus (intro w hSw; (try dsimp only at hSw); go_simp <;> with_reducible rfl)
  (try simp only [List.getElem_toArray, List.getElem_cons_zero, List.getElem_cons_succ, Act.put, List.setIfInBounds_toArray, List.set_cons_zero, List.set_cons_succ])
  refine wpAnyH_take (i := 3) (v := ?_) rfl (by kernel_rfl) (by kernel_rfl) (by kernel_rfl) (fun _ _ _ h => h) (Or.inl ⟨by rfl, ?_⟩) (by assumption) ?_
  rotate_left
  focus (intro w hSw; (try dsimp only at hSw); go_simp <;> with_reducible rfl)
  (try simp only [List.getElem_toArray, List.getElem_cons_zero, List.getElem_cons_succ, Act.put, List.setIfInBounds_toArray, List.set_cons_zero, List.set_cons_succ])
  refine wpAnyH_take (i := 5) (v := ?_) rfl (by kernel_rfl) (by kernel_rfl) (by kernel_rfl) (fun _ _ _ h => h) (Or.inl ⟨by rfl, ?_⟩) (by assumption) ?_
  rotate_left
  focus (intro w hSw; (try dsimp only at hSw); go_simp <;> with_reducible rfl)
  (try simp only [List.getElem_toArray, List.getElem_cons_zero, List.getElem_cons_succ, Act.put, List.setIfInBounds_toArray, List.set_cons_zero, List.set_cons_succ])
  refine wpAnyH_take (i := 6) (v := ?_) rfl (by kernel_rfl) (by kernel_rfl) (by kernel_rfl) (fun _ _ _ h => h) (Or.inl ⟨by rfl, ?_⟩) (by assumption) ?_
  rotate_left
  focus (intro w hSw; (try dsimp only at hSw); go_simp <;> with_reducible rfl)
  (try simp only [List.getElem_toArray, List.getElem_cons_zero, List.getElem_cons_succ, Act.put, List.setIfInBounds_toArray, List.set_cons_zero, List.set_cons_succ])
  refine wpAnyH_take (i := 7) (v := ?_) rfl (by kernel_rfl) (by kernel_rfl) (by kernel_rfl) (fun _ _ _ h => h) (Or.inl ⟨by rfl, ?_⟩) (by assumption) ?_
  rotate_left
  focus (intro w hSw; (try dsimp only at hSw); go_simp <;> with_reducible rfl)
  (try simp only [List.getElem_toArray, List.getElem_cons_zero, List.getElem_cons_succ, Act.put, List.setIfInBounds_toArray, List.set_cons_zero, List.set_cons_succ])
  refine wpAnyH_take (i := 8) (v := ?_) rfl (by kernel_rfl) (by kernel_rfl) (by kernel_rfl) (fun _ _ _ h => h) (Or.inl ⟨by rfl, ?_⟩) (by assumption) ?_
  rotate_left
  focus (intro w hSw; (try dsimp only at hSw); go_simp <;> with_reducible rfl)
  (try simp only [List.getElem_toArray, List.getElem_cons_zero, List.getElem_cons_succ, Act.put, List.setIfInBounds_toArray, List.set_cons_zero, List.set_cons_succ])
  refine wpAnyH_take (i := 9) (v := ?_) rfl (by kernel_rfl) (by kernel_rfl) (by kernel_rfl) (fun _ _ _ h => h) (Or.inl ⟨by rfl, ?_⟩) (by assumption) ?_
  rotate_left
  focus (intro w hSw; (try dsimp only at hSw); go_simp <;> with_reducible rfl)
  (try simp only [List.getElem_toArray, List.getElem_cons_zero, List.getElem_cons_succ, Act.put, List.setIfInBounds_toArray, List.set_cons_zero, List.set_cons_succ])
  refine wpAnyH_take (i := 10) (v := ?_) rfl (by kernel_rfl) (by kernel_rfl) (by kernel_rfl) (fun _ _ _ h => h) (Or.inl ⟨by rfl, ?_⟩) (by assumption) ?_
  rotate_left
  focus (intro w hSw; (try dsimp only at hSw); go_simp <;> with_reducible rfl)
  (try simp only [List.getElem_toArray, List.getElem_cons_zero, List.getElem_cons_succ, Act.put, List.setIfInBounds_toArray, List.set_cons_zero, List.set_cons_succ])
  refine wpAnyH_take (i := 11) (v := ?_) rfl (by kernel_rfl) (by kernel_rfl) (by kernel_rfl) (fun _ _ _ h => h) (Or.inl ⟨by rfl, ?_⟩) (by assumption) ?_
  rotate_left
  focus (intro w hSw; (try dsimp only at hSw); go_simp <;> with_reducible rfl)
  (try simp only [List.getElem_toArray, List.getElem_cons_zero, List.getElem_cons_succ, Act.put, List.setIfInBounds_toArray, List.set_cons_zero, List.set_cons_succ])
  refine wpAnyH_ready (rs := [4]) (by kernel_rfl) (by simp) ?_
  refine AllReadyH.cons rfl (fun Kz hKz => ?_) AllReadyH.nil
  (try simp only [List.getElem_toArray, List.getElem_cons_zero, List.getElem_cons_succ])
  go_simp
  (go_at_call 70; refine (wipedSlot_r (HDD.out.ext (E4.trans (by repeat' (first | (with_reducible exact Ext.refl _) | (with_reducible assumption) | (with_reducible refine Ext.drewN ?_ _) | (with_reducible refine Ext.drew ?_) | (with_reducible refine Ext.alloc ?_ _) | (with_reducible refine Ext.setCell ?_ ?_ _) | (with_reducible refine Ext.setRow ?_ ?_ _) | (with_reducible exact Nat.le_refl _) | (with_reducible refine Ext.trans ?_ (by assumption)) | omega)))) A2).mono ?_; rintro e9 wc ⟨_, rfl, hxc, gd⟩; obtain ⟨b0, m0, j0, b1, m1, j1, rfl⟩ := gd.shape; have hzc := hxc.size; have XC : Ext w4 wc := (by repeat' (first | (with_reducible exact Ext.refl _) | (with_reducible assumption) | (with_reducible refine Ext.drewN ?_ _) | (with_reducible refine Ext.drew ?_) | (with_reducible refine Ext.alloc ?_ _) | (with_reducible refine Ext.setCell ?_ ?_ _) | (with_reducible refine Ext.setRow ?_ ?_ _) | (with_reducible exact Nat.le_refl _) | (with_reducible refine Ext.trans ?_ (by assumption)) | omega)); have CRc := (KR4.ext XC).cell; have FRc := (KR4.ext XC).frozen; have LRc := (KR4.ext XC).lt)
  refine hKz.out _ _ (by (try dsimp only); exact (((Upd.refl w4 [w.heap.size + 1]).ext (Ext.drew (Ext.refl _))).ext hxc)) (fun hHeld => ?_)
  clear hKz Kz
  (try simp only [List.getElem_toArray, List.getElem_cons_zero, List.getElem_cons_succ, Act.put, List.setIfInBounds_toArray, List.set_cons_zero, List.set_cons_succ])
  refine wpAnyH_ready (rs := [12]) (by kernel_rfl) (by simp) ?_
  refine AllReadyH.cons rfl (fun Kz hKz => ?_) AllReadyH.nil
  (try simp only [List.getElem_toArray, List.getElem_cons_zero, List.getElem_cons_succ])
  go_simp
  refine hKz.out _ _ (by (try dsimp only); exact (((Upd.refl w4 [w.heap.size + 1]).ext (Ext.drew (Ext.refl _))).ext hxc)) (fun hHeld => ?_)
  clear hKz Kz
  (try simp only [List.getElem_toArray, List.getElem_cons_zero, List.getElem_cons_succ, Act.put, List.setIfInBounds_toArray, List.set_cons_zero, List.set_cons_succ])
  refine wpAnyH_ready (rs := [13]) (by kernel_rfl) (by simp) ?_
  refine AllReadyH.cons rfl (fun Kz hKz => ?_) AllReadyH.nil
  (try simp only [List.getElem_toArray, List.getElem_cons_zero, List.getElem_cons_succ])
  go_simp
  refine hKz.out _ _ (by (try dsimp only); exact (Upd.setCell (Upd.setCell (Upd.setCell (Upd.setCell (Upd.setCell (Upd.setCell (Upd.setCell (Upd.setCell (Upd.setCell (Upd.setCell (Upd.setCell (Upd.setCell (((Upd.refl w4 [w.heap.size + 1]).ext (Ext.drew (Ext.refl _))).ext hxc) (p := ⟨w.heap.size + 1, 0, none⟩) (List.mem_singleton.2 rfl) _) (p := ⟨w.heap.size + 1, 1, none⟩) (List.mem_singleton.2 rfl) _) (p := ⟨w.heap.size + 1, 2, none⟩) (List.mem_singleton.2 rfl) _) (p := ⟨w.heap.size + 1, 3, none⟩) (List.mem_singleton.2 rfl) _) (p := ⟨w.heap.size + 1, 4, none⟩) (List.mem_singleton.2 rfl) _) (p := ⟨w.heap.size + 1, 5, none⟩) (List.mem_singleton.2 rfl) _) (p := ⟨w.heap.size + 1, 6, none⟩) (List.mem_singleton.2 rfl) _) (p := ⟨w.heap.size + 1, 7, none⟩) (List.mem_singleton.2 rfl) _) (p := ⟨w.heap.size + 1, 8, none⟩) (List.mem_singleton.2 rfl) _) (p := ⟨w.heap.size + 1, 9, none⟩) (List.mem_singleton.2 rfl) _) (p := ⟨w.heap.size + 1, 10, none⟩) (List.mem_singleton.2 rfl) _) (p := ⟨w.heap.size + 1, 11, none⟩) (List.mem_singleton.2 rfl) _)) (fun hHeld => ?_)
  clear hKz Kz
  (try simp only [List.getElem_toArray, List.getElem_cons_zero, List.getElem_cons_succ, Act.put, List.setIfInBounds_toArray, List.set_cons_zero, List.set_cons_succ])
  refine wpAnyH_ready (rs := [14]) (by kernel_rfl) (by simp) ?_
  refine AllReadyH.cons rfl (fun Kz hKz => ?_) AllReadyH.nil
  (try simp only [List.getElem_toArray, List.getElem_cons_zero, List.getElem_cons_succ])
  go_simp
  refine hKz.out _ _ (by (try dsimp only); exact (Upd.setCell (Upd.setCell (Upd.setCell (Upd.setCell (Upd.setCell (Upd.setCell (Upd.setCell (Upd.setCell (Upd.setCell (Upd.setCell (Upd.setCell (Upd.setCell (((Upd.refl w4 [w.heap.size + 1]).ext (Ext.drew (Ext.refl _))).ext hxc) (p := ⟨w.heap.size + 1, 0, none⟩) (List.mem_singleton.2 rfl) _) (p := ⟨w.heap.size + 1, 1, none⟩) (List.mem_singleton.2 rfl) _) (p := ⟨w.heap.size + 1, 2, none⟩) (List.mem_singleton.2 rfl) _) (p := ⟨w.heap.size + 1, 3, none⟩) (List.mem_singleton.2 rfl) _) (p := ⟨w.heap.size + 1, 4, none⟩) (List.mem_singleton.2 rfl) _) (p := ⟨w.heap.size + 1, 5, none⟩) (List.mem_singleton.2 rfl) _) (p := ⟨w.heap.size + 1, 6, none⟩) (List.mem_singleton.2 rfl) _) (p := ⟨w.heap.size + 1, 7, none⟩) (List.mem_singleton.2 rfl) _) (p := ⟨w.heap.size + 1, 8, none⟩) (List.mem_singleton.2 rfl) _) (p := ⟨w.heap.size + 1, 9, none⟩) (List.mem_singleton.2 rfl) _) (p := ⟨w.heap.size + 1, 10, none⟩) (List.mem_singleton.2 rfl) _) (p := ⟨w.heap.size + 1, 11, none⟩) (List.mem_singleton.2 rfl) _)) (fun hHeld => ?_)
  clear hKz Kz
  (try simp only [List.getElem_toArray, List.getElem_cons_zero, List.getElem_cons_succ, Act.put, List.setIfInBounds_toArray, List.set_cons_zero, List.set_cons_succ])
  refine wpAnyH_done (by kernel_rfl) ?_ _
  clear ya0 ya1 yb0 yb1 yb2 yb3 yb4 yb5 yb6 yb7
  go_wp2_with fail
  refine bodyPost_ret (by simp [results, Tryz.results25, go_sem, CRc, FRc, LRc]; try rfl) rfl ?_
  have E6 := E4.trans XC
  have hz5 := XC.size
  have hz6 : w4.drew.heap.size = w4.heap.size := size_drew _
  obtain ⟨u3, u4, e5, gp, gj, _⟩ := gs4
  injection e5 with e5
  injection e5 with e5
  injection e5 with _ e5
  injection e5 with _ e5
  injection e5 with _ e5
  injection e5 with e53 e5
  injection e5 with e54 e5
  subst e53; subst e54
  refine ⟨_, rfl, by (clear E1 E2 E4 hxc XC hx2 hx3 X4; repeat' (first | (with_reducible exact Ext.refl _) | (with_reducible assumption) | (with_reducible refine Ext.drewN ?_ _) | (with_reducible refine Ext.drew ?_) | (with_reducible refine Ext.alloc ?_ _) | (with_reducible refine Ext.setCell ?_ ?_ _) | (with_reducible refine Ext.setRow ?_ ?_ _) | (with_reducible exact Nat.le_refl _) | (with_reducible refine Ext.trans ?_ (by assumption)) | omega)), _, by (rw [HOK.out]; try rfl), ?_⟩
  rw [HA2.out]
  exact OwStore.of (IsDisk.mono (IsDisk.keep gd (by repeat' (first | (with_reducible exact Chg.refl _ _) | (with_reducible refine Chg.drewN ?_ _) | (with_reducible refine Chg.drew ?_) | (with_reducible refine Chg.alloc ?_ _) | (with_reducible refine Chg.setLow ?_ (by omega) _) | (with_reducible refine Chg.setNew ?_ (by omega) _) | (with_reducible refine Chg.setRow ?_ (by omega) _) | (with_reducible refine Chg.ext ?_ (by assumption)) | omega))) (by omega)) ((OwnI.keep (Own.ext gp XC) (by repeat' (first | (with_reducible exact Chg.refl _ _) | (with_reducible refine Chg.drewN ?_ _) | (with_reducible refine Chg.drew ?_) | (with_reducible refine Chg.alloc ?_ _) | (with_reducible refine Chg.setLow ?_ (by omega) _) | (with_reducible refine Chg.setNew ?_ (by omega) _) | (with_reducible refine Chg.setRow ?_ (by omega) _) | (with_reducible refine Chg.ext ?_ (by assumption)) | omega))).mono (by omega)) ((OwnI.keep (Own.ext gj XC) (by repeat' (first | (with_reducible exact Chg.refl _ _) | (with_reducible refine Chg.drewN ?_ _) | (with_reducible refine Chg.drew ?_) | (with_reducible refine Chg.alloc ?_ _) | (with_reducible refine Chg.setLow ?_ (by omega) _) | (with_reducible refine Chg.setNew ?_ (by omega) _) | (with_reducible refine Chg.setRow ?_ (by omega) _) | (with_reducible refine Chg.ext ?_ (by assumption)) | omega))).mono (by omega))
set_option maxHeartbeats 4000000 in
set_option maxRecDepth 100000 in
theorem sRisenStore_k {w : World} {v : Value} {s : DStore} (h : RdStore w v s) : Calls Tryz.prog 24 #[v] w (Ret w fun r w' => ∃ u, r = .tuple #[u, .bool (riOk s)] ∧ ∃ F, OwStore w.heap.size w' u (riD s) F) := by
  obtain ⟨a0, n0, k0, a1, k1, a4, n4, k4, a5, n5, k5, rfl, hwl⟩ := h.wait
  have HDD := Lib.hid h.disk.1
  clear h
  obtain ⟨L, hL⟩ : ∃ L, L = s.Disk.Wait.length := ⟨_, rfl⟩
  rw [← hL] at HDD hwl ⊢
  have HL := Lib.hid hL
  clear hL
  obtain ⟨W1, hW1⟩ : ∃ W1, W1 = (w.alloc (.cells #[.slice a0 n0 k0, .slice a1 L k1, .int .i64 s.State.Index, .int .i64 s.State.Time, .slice a4 n4 k4, .slice a5 n5 k5, .int .i64 s.State.Lease.Holder, .int .i64 s.State.Lease.Epoch, .int .i64 s.State.Lease.Until, .int .i64 s.Num, .int .i64 s.Last, .int .i64 s.Busy] 58)).alloc (.cells #[.slice none 0 0, .slice none 0 0, .int .i64 0, .int .i64 0, .slice none 0 0, .slice none 0 0, .int .i64 0, .int .i64 0, .int .i64 0, .int .i64 0, .int .i64 0, .int .i64 0] 58) := ⟨_, rfl⟩
  have E1 : Ext w W1 := by rw [hW1]; exact ((Ext.refl _).alloc _).alloc _
  have KS1 : Blk W1 w.heap.size 58 #[.slice a0 n0 k0, .slice a1 L k1, .int .i64 s.State.Index, .int .i64 s.State.Time, .slice a4 n4 k4, .slice a5 n5 k5, .int .i64 s.State.Lease.Holder, .int .i64 s.State.Lease.Epoch, .int .i64 s.State.Lease.Until, .int .i64 s.Num, .int .i64 s.Last, .int .i64 s.Busy] := by rw [hW1]; exact (Blk.new _ _ _).alloc _
  have KR1 : Blk W1 (w.heap.size + 1) 58 #[.slice none 0 0, .slice none 0 0, .int .i64 0, .int .i64 0, .slice none 0 0, .slice none 0 0, .int .i64 0, .int .i64 0, .int .i64 0, .int .i64 0, .int .i64 0, .int .i64 0] := by rw [hW1]; exact Blk.new2 _ _ _ _
  have hz1 : w.heap.size + 1 < W1.heap.size := by rw [hW1]; simp
  have HW1 := Lib.hid hW1
  clear hW1
  go_enter Tryz.func24, Tryz.ntmps24
  go_wp2_with fail
  rw [← HW1.out]
  have CS1 := KS1.cell; have LS1 := KS1.lt
  go_wp2_with fail
  refine (sShelfOk_r (HDD.out.ext E1)).mono ?_
  rintro e9 w2 ⟨rfl, hx2⟩
  have E2 : Ext w w2 := E1.trans hx2
  have hz2 := hx2.size
  have KS2 := KS1.ext hx2; have KR2 := KR1.ext hx2
  clear CS1 LS1
  have CS2 := KS2.cell; have LS2 := KS2.lt; have CR2 := KR2.cell; have FR2 := KR2.frozen; have LR2 := KR2.lt
  cases hsh : shelfOk s.Disk
  · have e1 : riOk s = false := by simp [riOk, hsh]
    have e2 : riD s = ⟨⟨[], []⟩, ⟨0, 0, [], [], ⟨0, 0, 0⟩⟩, 0, 0, 0⟩ := by simp [riD, e1]
    have HA1 := Lib.hid e1; have HA2 := Lib.hid e2
    clear e1 e2
    go_wp2_with fail
    refine bodyPost_ret (by simp [results, Tryz.results24, go_sem, CR2, FR2, LR2]; try rfl) rfl ?_
    refine ⟨_, rfl, by repeat' (first | (with_reducible exact Ext.refl _) | (with_reducible assumption) | (with_reducible refine Ext.drewN ?_ _) | (with_reducible refine Ext.drew ?_) | (with_reducible refine Ext.alloc ?_ _) | (with_reducible refine Ext.setCell ?_ ?_ _) | (with_reducible refine Ext.setRow ?_ ?_ _) | (with_reducible exact Nat.le_refl _) | (with_reducible refine Ext.trans ?_ (by assumption)) | omega), _, by (rw [HA1.out]; try rfl), ?_⟩
    rw [HA2.out]
    exact OwStore.of (IsDisk.nil _ _) (OwnI.nil _ _ _ _) (OwnI.nil _ _ _ _)

  have HSH := Lib.hid hsh
  have HDK := Lib.hid (shelfOk_disk hsh)
  clear hsh
  go_wp2_with fail
  refine (safeIn_r (HDD.out.ext E2) HDK.out).mono ?_
  rintro e9 w2b ⟨rfl, hx2b⟩
  rw [← HL.out]
  have E2 := E2.trans hx2b
  have hz2b := hx2b.size
  have KS2 := KS2.ext hx2b; have KR2 := KR2.ext hx2b
  clear CS2 LS2 CR2 FR2 LR2
  have CS2 := KS2.cell; have LS2 := KS2.lt; have CR2 := KR2.cell; have FR2 := KR2.frozen; have LR2 := KR2.lt

  by_cases hwt : L = 0
  rotate_left
  · have e1 : riOk s = false := by simp only [riOk, ← HL.out]; simp [hwt]
    have e2 : riD s = ⟨⟨[], []⟩, ⟨0, 0, [], [], ⟨0, 0, 0⟩⟩, 0, 0, 0⟩ := by simp [riD, e1]
    have hw0 : decide (0 < L) = true := by simp; omega
    have hw1 : decide (L = 0) = false := by simp; omega
    rw [hw1]
    have HA1 := Lib.hid e1; have HA2 := Lib.hid e2
    clear e1 e2
    go_wp2_with fail
    refine bodyPost_ret (by simp [results, Tryz.results24, go_sem, CR2, FR2, LR2]; try rfl) rfl ?_
    refine ⟨_, rfl, by repeat' (first | (with_reducible exact Ext.refl _) | (with_reducible assumption) | (with_reducible refine Ext.drewN ?_ _) | (with_reducible refine Ext.drew ?_) | (with_reducible refine Ext.alloc ?_ _) | (with_reducible refine Ext.setCell ?_ ?_ _) | (with_reducible refine Ext.setRow ?_ ?_ _) | (with_reducible exact Nat.le_refl _) | (with_reducible refine Ext.trans ?_ (by assumption)) | omega), _, by (rw [HA1.out]; try rfl), ?_⟩
    rw [HA2.out]
    exact OwStore.of (IsDisk.nil _ _) (OwnI.nil _ _ _ _) (OwnI.nil _ _ _ _)

  have hok : riOk s = true := by simp only [riOk, HSH.out, ← HL.out]; simp [hwt]
  have HOK := Lib.hid hok
  have hw0 : decide (0 < L) = false := by simp; omega
  have hw1 : decide (L = 0) = true := by simp; omega
  rw [hw1]
  clear hok hwl hwt hw1
  go_wp2_with fail
  refine (sNewestShot_k (HDD.out.ext E2)).mono ?_
  rintro e9 w3 ⟨_, rfl, hx3, u, rfl, F9, gs⟩
  obtain ⟨N, hN⟩ : ∃ N, N = newShot s.Disk := ⟨_, rfl⟩
  obtain ⟨A, hA⟩ : ∃ A, A = newAt s.Disk := ⟨_, rfl⟩
  rw [← hN] at gs
  rw [← hA]
  have hat := newAt_is s.Disk
  rw [← hA] at hat
  obtain ⟨c3, m3, j3, c4, m4, j4, rfl⟩ := gs.rd.shape
  have hz3 := hx3.size
  obtain ⟨w4, hW4⟩ : ∃ w4, w4 = w3.alloc (.cells #[.int .i64 N.Num, .int .i64 N.State.Index, .int .i64 N.State.Time, .slice c3 m3 j3, .slice c4 m4 j4, .int .i64 N.State.Lease.Holder, .int .i64 N.State.Lease.Epoch, .int .i64 N.State.Lease.Until] 102) := ⟨_, rfl⟩
  have X4 : Ext w2b w4 := by rw [hW4]; exact hx3.alloc _
  have KN4 : Blk w4 w3.heap.size 102 #[.int .i64 N.Num, .int .i64 N.State.Index, .int .i64 N.State.Time, .slice c3 m3 j3, .slice c4 m4 j4, .int .i64 N.State.Lease.Holder, .int .i64 N.State.Lease.Epoch, .int .i64 N.State.Lease.Until] := by rw [hW4]; exact Blk.new _ _ _
  have gs4 : OwShot w2b.heap.size w4 (.agg #[.int .i64 N.Num, .int .i64 N.State.Index, .int .i64 N.State.Time, .slice c3 m3 j3, .slice c4 m4 j4, .int .i64 N.State.Lease.Holder, .int .i64 N.State.Lease.Epoch, .int .i64 N.State.Lease.Until]) N F9 := gs.ext (by rw [hW4]; exact (Ext.refl _).alloc _)
  have HW4 := Lib.hid hW4
  have hz4 : w4.heap.size = w3.heap.size + 1 := by rw [hW4]; simp
  have HZ4 := Lib.hid hz4
  have hz4' : w3.heap.size < w4.heap.size := by omega
  have E4 : Ext w w4 := E2.trans X4
  have KS4 := KS2.ext X4; have KR4 := KR2.ext X4
  have KS3 := KS2.ext hx3
  clear hW4 hz4 CS2 LS2 CR2 FR2 LR2
  have CS3 := KS3.cell; have LS3 := KS3.lt
  cases hO : newOk s.Disk
  · have e2 : riD s = ⟨wipedSlot (wipedSlot s.Disk 0) 1, ⟨0, 0, [], [], ⟨0, 0, 0⟩⟩, 0, 0, 0⟩ := by simp [riD, HOK.out, hO]
    have HA2 := Lib.hid e2
    clear e2 hO hN hA hat
    go_wp2_with fail
    rw [← HW4.out]
    clear CS3 LS3 KS3
    have CS4 := KS4.cell; have LS4 := KS4.lt
    refine (sWipedSlot_r (HDD.out.ext E4) 0).mono ?_
    rintro e9 w5 ⟨_, rfl, hx5, gd⟩
    obtain ⟨b0, m0, j0, b1, m1, j1, rfl⟩ := gd.shape
    have E5 := E4.trans hx5
    clear CS4 LS4
    go_wp2_with fail
    refine (sWipedSlot_r gd.rd 1).mono ?_
    rintro e9 w6 ⟨_, rfl, hx6, ge⟩
    obtain ⟨b0, m0, j0, b1, m1, j1, rfl⟩ := ge.shape
    have E6 := E5.trans hx6
    have KR6 := (KR4.ext hx5).ext hx6
    have CR6 := KR6.cell; have FR6 := KR6.frozen; have LR6 := KR6.lt
    have hz5 := hx5.size; have hz6 := hx6.size
    go_wp2_with fail
    refine bodyPost_ret (by simp [results, Tryz.results24, go_sem, CR6, FR6, LR6]; try rfl) rfl ?_
    refine ⟨_, rfl, by repeat' (first | (with_reducible exact Ext.refl _) | (with_reducible assumption) | (with_reducible refine Ext.drewN ?_ _) | (with_reducible refine Ext.drew ?_) | (with_reducible refine Ext.alloc ?_ _) | (with_reducible refine Ext.setCell ?_ ?_ _) | (with_reducible refine Ext.setRow ?_ ?_ _) | (with_reducible exact Nat.le_refl _) | (with_reducible refine Ext.trans ?_ (by assumption)) | omega), _, by (rw [HOK.out]; try rfl), ?_⟩
    rw [HA2.out]
    exact OwStore.of (IsDisk.mono (IsDisk.keep ge (by repeat' (first | (with_reducible exact Chg.refl _ _) | (with_reducible refine Chg.drewN ?_ _) | (with_reducible refine Chg.drew ?_) | (with_reducible refine Chg.alloc ?_ _) | (with_reducible refine Chg.setLow ?_ (by omega) _) | (with_reducible refine Chg.setNew ?_ (by omega) _) | (with_reducible refine Chg.setRow ?_ (by omega) _) | (with_reducible refine Chg.ext ?_ (by assumption)) | omega))) (by omega)) (OwnI.nil _ _ _ _) (OwnI.nil _ _ _ _)
  have e2 : riD s = ⟨wipedSlot s.Disk (1 - A), N.State, N.Num, N.State.Index, 0⟩ := by simp [riD, HOK.out, hO, hN, hA]
  have HA2 := Lib.hid e2
  clear e2 hO hN hA
  obtain ⟨A2, hA2⟩ : ∃ A2, A2 = 1 - A := ⟨_, rfl⟩
  have hsub : IntKind.i64.wrap A2 = A2 := by rw [IntKind.wrap_i64]; omega
  have hsub2 : (1 : Int) - A = A2 := hA2.symm
  rw [← hA2] at HA2
  clear hA2 hat
  go_wp2_with fail
  rw [← HW4.out]
  clear CS3 LS3 KS3
  have hn1 : w.heap.size ∉ [w.heap.size + 1] := by simp
  have hn2 : w3.heap.size ∉ [w.heap.size + 1] := by simp; omega
  have ya0 : ∀ w', Upd w4 w' [w.heap.size + 1] → w'.cell? ⟨w.heap.size, 0, none⟩ = some (.slice a0 n0 k0) := fun w' hw => (KS4.upd hw hn1).cell 0
  have ya1 : ∀ w', Upd w4 w' [w.heap.size + 1] → w'.cell? ⟨w.heap.size, 1, none⟩ = some (.slice a1 L k1) := fun w' hw => (KS4.upd hw hn1).cell 1
  have yb0 : ∀ w', Upd w4 w' [w.heap.size + 1] → w'.cell? ⟨w3.heap.size, 0, none⟩ = some (.int .i64 N.Num) := fun w' hw => (KN4.upd hw hn2).cell 0
  have yb1 : ∀ w', Upd w4 w' [w.heap.size + 1] → w'.cell? ⟨w3.heap.size, 1, none⟩ = some (.int .i64 N.State.Index) := fun w' hw => (KN4.upd hw hn2).cell 1
  have yb2 : ∀ w', Upd w4 w' [w.heap.size + 1] → w'.cell? ⟨w3.heap.size, 2, none⟩ = some (.int .i64 N.State.Time) := fun w' hw => (KN4.upd hw hn2).cell 2
  have yb3 : ∀ w', Upd w4 w' [w.heap.size + 1] → w'.cell? ⟨w3.heap.size, 3, none⟩ = some (.slice c3 m3 j3) := fun w' hw => (KN4.upd hw hn2).cell 3
  have yb4 : ∀ w', Upd w4 w' [w.heap.size + 1] → w'.cell? ⟨w3.heap.size, 4, none⟩ = some (.slice c4 m4 j4) := fun w' hw => (KN4.upd hw hn2).cell 4
  have yb5 : ∀ w', Upd w4 w' [w.heap.size + 1] → w'.cell? ⟨w3.heap.size, 5, none⟩ = some (.int .i64 N.State.Lease.Holder) := fun w' hw => (KN4.upd hw hn2).cell 5
  have yb6 : ∀ w', Upd w4 w' [w.heap.size + 1] → w'.cell? ⟨w3.heap.size, 6, none⟩ = some (.int .i64 N.State.Lease.Epoch) := fun w' hw => (KN4.upd hw hn2).cell 6
  have yb7 : ∀ w', Upd w4 w' [w.heap.size + 1] → w'.cell? ⟨w3.heap.size, 7, none⟩ = some (.int .i64 N.State.Lease.Until) := fun w' hw => (KN4.upd hw hn2).cell 7
  clear hn1 hn2

  refine wp_region_held_drew (S := fun w' => Upd w4 w' [w.heap.size + 1]) (by kernel_rfl) (by (try dsimp only); exact ((Upd.refl w4 [w.heap.size + 1]).ext (Ext.drew (Ext.refl _)))) (fun hHeld => ?_)
  refine wpAnyH_take (i := 0) (v := ?_) rfl (by kernel_rfl) (by kernel_rfl) (by kernel_rfl) (fun _ _ _ h => h) (Or.inl ⟨by rfl, ?_⟩) (by assumption) ?_
  rotate_left
  focus (intro w hSw; (try dsimp only at hSw); go_simp <;> with_reducible rfl)
  (try simp only [List.getElem_toArray, List.getElem_cons_zero, List.getElem_cons_succ, Act.put, List.setIfInBounds_toArray, List.set_cons_zero, List.set_cons_succ])
  refine wpAnyH_take (i := 1) (v := ?_) rfl (by kernel_rfl) (by kernel_rfl) (by kernel_rfl) (fun _ _ _ h => h) (Or.inl ⟨by rfl, ?_⟩) (by assumption) ?_
  rotate_left
  focus (intro w hSw; (try dsimp only at hSw); go_simp <;> with_reducible rfl)
  (try simp only [List.getElem_toArray, List.getElem_cons_zero, List.getElem_cons_succ, Act.put, List.setIfInBounds_toArray, List.set_cons_zero, List.set_cons_succ])
  refine wpAnyH_take (i := 2) (v := ?_) rfl (by kernel_rfl) (by kernel_rfl) (by kernel_rfl) (fun _ _ _ h => h) (Or.inl ⟨by rfl, ?_⟩) (by assumption) ?_
  rotate_left
  focus (intro w hSw; (try dsimp only at hSw); go_simp <;> with_reducible rfl)
  (try simp only [List.getElem_toArray, List.getElem_cons_zero, List.getElem_cons_succ, Act.put, List.setIfInBounds_toArray, List.set_cons_zero, List.set_cons_succ])
  refine wpAnyH_take (i := 3) (v := ?_) rfl (by kernel_rfl) (by kernel_rfl) (by kernel_rfl) (fun _ _ _ h => h) (Or.inl ⟨by rfl, ?_⟩) (by assumption) ?_
  rotate_left
  focus (intro w hSw; (try dsimp only at hSw); go_simp <;> with_reducible rfl)
  (try simp only [List.getElem_toArray, List.getElem_cons_zero, List.getElem_cons_succ, Act.put, List.setIfInBounds_toArray, List.set_cons_zero, List.set_cons_succ])
  refine wpAnyH_take (i := 5) (v := ?_) rfl (by kernel_rfl) (by kernel_rfl) (by kernel_rfl) (fun _ _ _ h => h) (Or.inl ⟨by rfl, ?_⟩) (by assumption) ?_
  rotate_left
  focus (intro w hSw; (try dsimp only at hSw); go_simp <;> with_reducible rfl)
  (try simp only [List.getElem_toArray, List.getElem_cons_zero, List.getElem_cons_succ, Act.put, List.setIfInBounds_toArray, List.set_cons_zero, List.set_cons_succ])
  refine wpAnyH_take (i := 6) (v := ?_) rfl (by kernel_rfl) (by kernel_rfl) (by kernel_rfl) (fun _ _ _ h => h) (Or.inl ⟨by rfl, ?_⟩) (by assumption) ?_
  rotate_left
  focus (intro w hSw; (try dsimp only at hSw); go_simp <;> with_reducible rfl)
  (try simp only [List.getElem_toArray, List.getElem_cons_zero, List.getElem_cons_succ, Act.put, List.setIfInBounds_toArray, List.set_cons_zero, List.set_cons_succ])
  refine wpAnyH_take (i := 7) (v := ?_) rfl (by kernel_rfl) (by kernel_rfl) (by kernel_rfl) (fun _ _ _ h => h) (Or.inl ⟨by rfl, ?_⟩) (by assumption) ?_
  rotate_left
  focus (intro w hSw; (try dsimp only at hSw); go_simp <;> with_reducible rfl)
  (try simp only [List.getElem_toArray, List.getElem_cons_zero, List.getElem_cons_succ, Act.put, List.setIfInBounds_toArray, List.set_cons_zero, List.set_cons_succ])
  refine wpAnyH_take (i := 8) (v := ?_) rfl (by kernel_rfl) (by kernel_rfl) (by kernel_rfl) (fun _ _ _ h => h) (Or.inl ⟨by rfl, ?_⟩) (by assumption) ?_
  rotate_left
  focus (intro w hSw; (try dsimp only at hSw); go_simp <;> with_reducible rfl)
  (try simp only [List.getElem_toArray, List.getElem_cons_zero, List.getElem_cons_succ, Act.put, List.setIfInBounds_toArray, List.set_cons_zero, List.set_cons_succ])
  refine wpAnyH_take (i := 9) (v := ?_) rfl (by kernel_rfl) (by kernel_rfl) (by kernel_rfl) (fun _ _ _ h => h) (Or.inl ⟨by rfl, ?_⟩) (by assumption) ?_
  rotate_left
  focus (intro w hSw; (try dsimp only at hSw); go_simp <;> with_reducible rfl)
  (try simp only [List.getElem_toArray, List.getElem_cons_zero, List.getElem_cons_succ, Act.put, List.setIfInBounds_toArray, List.set_cons_zero, List.set_cons_succ])
  refine wpAnyH_take (i := 10) (v := ?_) rfl (by kernel_rfl) (by kernel_rfl) (by kernel_rfl) (fun _ _ _ h => h) (Or.inl ⟨by rfl, ?_⟩) (by assumption) ?_
  rotate_left
  focus (intro w hSw; (try dsimp only at hSw); go_simp <;> with_reducible rfl)
  (try simp only [List.getElem_toArray, List.getElem_cons_zero, List.getElem_cons_succ, Act.put, List.setIfInBounds_toArray, List.set_cons_zero, List.set_cons_succ])
  refine wpAnyH_take (i := 11) (v := ?_) rfl (by kernel_rfl) (by kernel_rfl) (by kernel_rfl) (fun _ _ _ h => h) (Or.inl ⟨by rfl, ?_⟩) (by assumption) ?_
  rotate_left
  focus (intro w hSw; (try dsimp only at hSw); go_simp <;> with_reducible rfl)
  (try simp only [List.getElem_toArray, List.getElem_cons_zero, List.getElem_cons_succ, Act.put, List.setIfInBounds_toArray, List.set_cons_zero, List.set_cons_succ])
  refine wpAnyH_ready (rs := [4]) (by kernel_rfl) (by simp) ?_
  refine AllReadyH.cons rfl (fun Kz hKz => ?_) AllReadyH.nil
  (try simp only [List.getElem_toArray, List.getElem_cons_zero, List.getElem_cons_succ])
  go_simp
  (go_at_call 68; refine (sWipedSlot_r (HDD.out.ext (E4.trans (by repeat' (first | (with_reducible exact Ext.refl _) | (with_reducible assumption) | (with_reducible refine Ext.drewN ?_ _) | (with_reducible refine Ext.drew ?_) | (with_reducible refine Ext.alloc ?_ _) | (with_reducible refine Ext.setCell ?_ ?_ _) | (with_reducible refine Ext.setRow ?_ ?_ _) | (with_reducible exact Nat.le_refl _) | (with_reducible refine Ext.trans ?_ (by assumption)) | omega)))) A2).mono ?_; rintro e9 wc ⟨_, rfl, hxc, gd⟩; obtain ⟨b0, m0, j0, b1, m1, j1, rfl⟩ := gd.shape; have hzc := hxc.size; have XC : Ext w4 wc := (by repeat' (first | (with_reducible exact Ext.refl _) | (with_reducible assumption) | (with_reducible refine Ext.drewN ?_ _) | (with_reducible refine Ext.drew ?_) | (with_reducible refine Ext.alloc ?_ _) | (with_reducible refine Ext.setCell ?_ ?_ _) | (with_reducible refine Ext.setRow ?_ ?_ _) | (with_reducible exact Nat.le_refl _) | (with_reducible refine Ext.trans ?_ (by assumption)) | omega)); have CRc := (KR4.ext XC).cell; have FRc := (KR4.ext XC).frozen; have LRc := (KR4.ext XC).lt)
  refine hKz.out _ _ (by (try dsimp only); exact (((Upd.refl w4 [w.heap.size + 1]).ext (Ext.drew (Ext.refl _))).ext hxc)) (fun hHeld => ?_)
  clear hKz Kz
  (try simp only [List.getElem_toArray, List.getElem_cons_zero, List.getElem_cons_succ, Act.put, List.setIfInBounds_toArray, List.set_cons_zero, List.set_cons_succ])
  refine wpAnyH_ready (rs := [12]) (by kernel_rfl) (by simp) ?_
  refine AllReadyH.cons rfl (fun Kz hKz => ?_) AllReadyH.nil
  (try simp only [List.getElem_toArray, List.getElem_cons_zero, List.getElem_cons_succ])
  go_simp
  refine hKz.out _ _ (by (try dsimp only); exact (((Upd.refl w4 [w.heap.size + 1]).ext (Ext.drew (Ext.refl _))).ext hxc)) (fun hHeld => ?_)
  clear hKz Kz
  (try simp only [List.getElem_toArray, List.getElem_cons_zero, List.getElem_cons_succ, Act.put, List.setIfInBounds_toArray, List.set_cons_zero, List.set_cons_succ])
  refine wpAnyH_ready (rs := [13]) (by kernel_rfl) (by simp) ?_
  refine AllReadyH.cons rfl (fun Kz hKz => ?_) AllReadyH.nil
  (try simp only [List.getElem_toArray, List.getElem_cons_zero, List.getElem_cons_succ])
  go_simp
  refine hKz.out _ _ (by (try dsimp only); exact (Upd.setCell (Upd.setCell (Upd.setCell (Upd.setCell (Upd.setCell (Upd.setCell (Upd.setCell (Upd.setCell (Upd.setCell (Upd.setCell (Upd.setCell (Upd.setCell (((Upd.refl w4 [w.heap.size + 1]).ext (Ext.drew (Ext.refl _))).ext hxc) (p := ⟨w.heap.size + 1, 0, none⟩) (List.mem_singleton.2 rfl) _) (p := ⟨w.heap.size + 1, 1, none⟩) (List.mem_singleton.2 rfl) _) (p := ⟨w.heap.size + 1, 2, none⟩) (List.mem_singleton.2 rfl) _) (p := ⟨w.heap.size + 1, 3, none⟩) (List.mem_singleton.2 rfl) _) (p := ⟨w.heap.size + 1, 4, none⟩) (List.mem_singleton.2 rfl) _) (p := ⟨w.heap.size + 1, 5, none⟩) (List.mem_singleton.2 rfl) _) (p := ⟨w.heap.size + 1, 6, none⟩) (List.mem_singleton.2 rfl) _) (p := ⟨w.heap.size + 1, 7, none⟩) (List.mem_singleton.2 rfl) _) (p := ⟨w.heap.size + 1, 8, none⟩) (List.mem_singleton.2 rfl) _) (p := ⟨w.heap.size + 1, 9, none⟩) (List.mem_singleton.2 rfl) _) (p := ⟨w.heap.size + 1, 10, none⟩) (List.mem_singleton.2 rfl) _) (p := ⟨w.heap.size + 1, 11, none⟩) (List.mem_singleton.2 rfl) _)) (fun hHeld => ?_)
  clear hKz Kz
  (try simp only [List.getElem_toArray, List.getElem_cons_zero, List.getElem_cons_succ, Act.put, List.setIfInBounds_toArray, List.set_cons_zero, List.set_cons_succ])
  refine wpAnyH_ready (rs := [14]) (by kernel_rfl) (by simp) ?_
  refine AllReadyH.cons rfl (fun Kz hKz => ?_) AllReadyH.nil
  (try simp only [List.getElem_toArray, List.getElem_cons_zero, List.getElem_cons_succ])
  go_simp
  refine hKz.out _ _ (by (try dsimp only); exact (Upd.setCell (Upd.setCell (Upd.setCell (Upd.setCell (Upd.setCell (Upd.setCell (Upd.setCell (Upd.setCell (Upd.setCell (Upd.setCell (Upd.setCell (Upd.setCell (((Upd.refl w4 [w.heap.size + 1]).ext (Ext.drew (Ext.refl _))).ext hxc) (p := ⟨w.heap.size + 1, 0, none⟩) (List.mem_singleton.2 rfl) _) (p := ⟨w.heap.size + 1, 1, none⟩) (List.mem_singleton.2 rfl) _) (p := ⟨w.heap.size + 1, 2, none⟩) (List.mem_singleton.2 rfl) _) (p := ⟨w.heap.size + 1, 3, none⟩) (List.mem_singleton.2 rfl) _) (p := ⟨w.heap.size + 1, 4, none⟩) (List.mem_singleton.2 rfl) _) (p := ⟨w.heap.size + 1, 5, none⟩) (List.mem_singleton.2 rfl) _) (p := ⟨w.heap.size + 1, 6, none⟩) (List.mem_singleton.2 rfl) _) (p := ⟨w.heap.size + 1, 7, none⟩) (List.mem_singleton.2 rfl) _) (p := ⟨w.heap.size + 1, 8, none⟩) (List.mem_singleton.2 rfl) _) (p := ⟨w.heap.size + 1, 9, none⟩) (List.mem_singleton.2 rfl) _) (p := ⟨w.heap.size + 1, 10, none⟩) (List.mem_singleton.2 rfl) _) (p := ⟨w.heap.size + 1, 11, none⟩) (List.mem_singleton.2 rfl) _)) (fun hHeld => ?_)
  clear hKz Kz
  (try simp only [List.getElem_toArray, List.getElem_cons_zero, List.getElem_cons_succ, Act.put, List.setIfInBounds_toArray, List.set_cons_zero, List.set_cons_succ])
  refine wpAnyH_done (by kernel_rfl) ?_ _
  clear ya0 ya1 yb0 yb1 yb2 yb3 yb4 yb5 yb6 yb7
  go_wp2_with fail
  refine bodyPost_ret (by simp [results, Tryz.results24, go_sem, CRc, FRc, LRc]; try rfl) rfl ?_
  have E6 := E4.trans XC
  have hz5 := XC.size
  have hz6 : w4.drew.heap.size = w4.heap.size := size_drew _
  obtain ⟨u3, u4, e5, gp, gj, _⟩ := gs4
  injection e5 with e5
  injection e5 with e5
  injection e5 with _ e5
  injection e5 with _ e5
  injection e5 with _ e5
  injection e5 with e53 e5
  injection e5 with e54 e5
  subst e53; subst e54
  refine ⟨_, rfl, by (clear E1 E2 E4 hxc XC hx2 hx3 X4; repeat' (first | (with_reducible exact Ext.refl _) | (with_reducible assumption) | (with_reducible refine Ext.drewN ?_ _) | (with_reducible refine Ext.drew ?_) | (with_reducible refine Ext.alloc ?_ _) | (with_reducible refine Ext.setCell ?_ ?_ _) | (with_reducible refine Ext.setRow ?_ ?_ _) | (with_reducible exact Nat.le_refl _) | (with_reducible refine Ext.trans ?_ (by assumption)) | omega)), _, by (rw [HOK.out]; try rfl), ?_⟩
  rw [HA2.out]
  exact OwStore.of (IsDisk.mono (IsDisk.keep gd (by repeat' (first | (with_reducible exact Chg.refl _ _) | (with_reducible refine Chg.drewN ?_ _) | (with_reducible refine Chg.drew ?_) | (with_reducible refine Chg.alloc ?_ _) | (with_reducible refine Chg.setLow ?_ (by omega) _) | (with_reducible refine Chg.setNew ?_ (by omega) _) | (with_reducible refine Chg.setRow ?_ (by omega) _) | (with_reducible refine Chg.ext ?_ (by assumption)) | omega))) (by omega)) ((OwnI.keep (Own.ext gp XC) (by repeat' (first | (with_reducible exact Chg.refl _ _) | (with_reducible refine Chg.drewN ?_ _) | (with_reducible refine Chg.drew ?_) | (with_reducible refine Chg.alloc ?_ _) | (with_reducible refine Chg.setLow ?_ (by omega) _) | (with_reducible refine Chg.setNew ?_ (by omega) _) | (with_reducible refine Chg.setRow ?_ (by omega) _) | (with_reducible refine Chg.ext ?_ (by assumption)) | omega))).mono (by omega)) ((OwnI.keep (Own.ext gj XC) (by repeat' (first | (with_reducible exact Chg.refl _ _) | (with_reducible refine Chg.drewN ?_ _) | (with_reducible refine Chg.drew ?_) | (with_reducible refine Chg.alloc ?_ _) | (with_reducible refine Chg.setLow ?_ (by omega) _) | (with_reducible refine Chg.setNew ?_ (by omega) _) | (with_reducible refine Chg.setRow ?_ (by omega) _) | (with_reducible refine Chg.ext ?_ (by assumption)) | omega))).mono (by omega))

end Go.Proofs.YthdiaijiokoifaaGreat

-- Bounds of RisenStore.
set_option linter.unusedSimpArgs false
set_option linter.unusedVariables false
namespace Go.Proofs.YthdiaijiokoifaaGreat
open Go.RowKit Go.G8

end Go.Proofs.YthdiaijiokoifaaGreat
namespace Go.G8
open Go.RowKit
open Go.Proofs.YthdiaijiokoifaaGreat
theorem nRi (s : DStore) : nStore (riD s) ≤ 100000000 := by
  unfold riD
  split
  · split
    · rename_i h
      have h1 := nWiped s.Disk (1 - newAt s.Disk)
      have h2 := newShot_ok h
      simp only [shotOk, Bool.and_eq_true] at h2
      have h3 := stateOk_lens h2.2.1
      rw [nStore_eq]; simp only []; omega
    · have h1 := nWiped (wipedSlot s.Disk 0) 1
      rw [nStore_eq]; simp only [List.length_nil]; omega
  · simp [nStore, tot, nestInt64S, nestWrite]
end Go.G8
namespace Go.Proofs.YthdiaijiokoifaaGreat
open Go.RowKit Go.G8

end Go.Proofs.YthdiaijiokoifaaGreat

-- The statement's walk: FnExactRisenStore.
set_option linter.unusedSimpArgs false
set_option linter.unusedVariables false
namespace Go.Proofs.YthdiaijiokoifaaGreat
open Go.RowKit Go.G8

set_option maxHeartbeats 4000000 in
set_option maxRecDepth 100000 in
theorem law_RisenStore (w : World) (s0_0 : Value) (l0_0 : List (List Int)) (s0_1 : Value) (l0_1 : List DWrite) (c0_2 : Int) (c0_3 : Int) (s0_4 : Value) (l0_4 : List DPair) (s0_5 : Value) (l0_5 : List DJob) (c0_6 : Int) (c0_7 : Int) (c0_8 : Int) (c0_9 : Int) (c0_10 : Int) (c0_11 : Int) (h0_0 : Nest 0 w s0_0 (nestInt64S l0_0)) (h0_1 : Nest 1 w s0_1 (nestWrite l0_1)) (h0_4 : Ints 2 w s0_4 (flPair l0_4)) (h0_5 : Ints 5 w s0_5 (flJob l0_5)) : Calls Tryz.prog 5 #[.agg #[s0_0, s0_1, .int .i64 c0_2, .int .i64 c0_3, s0_4, s0_5, .int .i64 c0_6, .int .i64 c0_7, .int .i64 c0_8, .int .i64 c0_9, .int .i64 c0_10, .int .i64 c0_11]] w (RetV w (.bool true)) := by
  obtain ⟨a0_0, n0_0, k0_0, rfl⟩ := h0_0.shape
  obtain ⟨a0_1, n0_1, k0_1, rfl⟩ := h0_1.shape
  obtain ⟨a0_4, n0_4, k0_4, rfl⟩ := h0_4.shape
  obtain ⟨a0_5, n0_5, k0_5, rfl⟩ := h0_5.shape
  have h0 : RdStore w (.agg #[.slice a0_0 n0_0 k0_0, .slice a0_1 n0_1 k0_1, .int .i64 c0_2, .int .i64 c0_3, .slice a0_4 n0_4 k0_4, .slice a0_5 n0_5 k0_5, .int .i64 c0_6, .int .i64 c0_7, .int .i64 c0_8, .int .i64 c0_9, .int .i64 c0_10, .int .i64 c0_11]) ⟨⟨l0_0, l0_1⟩, ⟨c0_2, c0_3, l0_4, l0_5, ⟨c0_6, c0_7, c0_8⟩⟩, c0_9, c0_10, c0_11⟩ := ⟨_, _, _, _, rfl, h0_0, h0_1, h0_4, h0_5⟩
  obtain ⟨S, hS⟩ : ∃ S : DStore, S = ⟨⟨l0_0, l0_1⟩, ⟨c0_2, c0_3, l0_4, l0_5, ⟨c0_6, c0_7, c0_8⟩⟩, c0_9, c0_10, c0_11⟩ := ⟨_, rfl⟩
  rw [← hS] at h0
  go_enter Tryz.func5, Tryz.ntmps5
  go_wp2_with fail
  refine (sz_Store (h0.ext (by repeat' (first | (with_reducible exact Ext.refl _) | (with_reducible assumption) | (with_reducible refine Ext.drewN ?_ _) | (with_reducible refine Ext.drew ?_) | (with_reducible refine Ext.alloc ?_ _) | (with_reducible refine Ext.setCell ?_ ?_ _) | (with_reducible refine Ext.setRow ?_ ?_ _) | (with_reducible exact Nat.le_refl _) | (with_reducible refine Ext.trans ?_ (by assumption)) | omega))) (by omega) (by omega)).mono ?_
  rintro e w1 ⟨v1, rfl, hx1, hv1⟩
  have X1 : Ext w w1 := by repeat' (first | (with_reducible exact Ext.refl _) | (with_reducible assumption) | (with_reducible refine Ext.drewN ?_ _) | (with_reducible refine Ext.drew ?_) | (with_reducible refine Ext.alloc ?_ _) | (with_reducible refine Ext.setCell ?_ ?_ _) | (with_reducible refine Ext.setRow ?_ ?_ _) | (with_reducible exact Nat.le_refl _) | (with_reducible refine Ext.trans ?_ (by assumption)) | omega)
  have Ba : Blk w1 w.heap.size 51 #[.slice a0_0 n0_0 k0_0, .slice a0_1 n0_1 k0_1, .int .i64 c0_2, .int .i64 c0_3, .slice a0_4 n0_4 k0_4, .slice a0_5 n0_5 k0_5, .int .i64 c0_6, .int .i64 c0_7, .int .i64 c0_8, .int .i64 c0_9, .int .i64 c0_10, .int .i64 c0_11] := (Blk.new w 51 #[.slice a0_0 n0_0 k0_0, .slice a0_1 n0_1 k0_1, .int .i64 c0_2, .int .i64 c0_3, .slice a0_4 n0_4 k0_4, .slice a0_5 n0_5 k0_5, .int .i64 c0_6, .int .i64 c0_7, .int .i64 c0_8, .int .i64 c0_9, .int .i64 c0_10, .int .i64 c0_11]).ext hx1
  have MBa := Ba.lt
  have Z1 := X1.size
  have E1 : Ext w w1 := X1
  clear hx1
  have CBa := Ba.cell; have LBa := Ba.lt
  rcases hv1 with ⟨rfl, qz⟩ | ⟨rfl, qz⟩
  · go_wp2; go_ret; exact ⟨rfl, by repeat' (first | (with_reducible exact Ext.refl _) | (with_reducible assumption) | (with_reducible refine Ext.drewN ?_ _) | (with_reducible refine Ext.drew ?_) | (with_reducible refine Ext.alloc ?_ _) | (with_reducible refine Ext.setCell ?_ ?_ _) | (with_reducible refine Ext.setRow ?_ ?_ _) | (with_reducible exact Nat.le_refl _) | (with_reducible refine Ext.trans ?_ (by assumption)) | omega)⟩
  have q0 : rowsSize (nestInt64S S.Disk.Kept) ≤ 1048576 := by omega
  have q1 : rowsSize (nestWrite S.Disk.Wait) ≤ 1048576 := by omega
  have q2 : S.State.Pairs.length ≤ 1048576 := by omega
  have q3 : S.State.Jobs.length ≤ 1048576 := by omega
  have nx := nStore_le2 S q0 q1 q2 q3
  have nb := nRi S
  clear hS h0_0 h0_1 h0_4 h0_5
  go_wp2_with fail
  refine (to_Store (h0.ext (by repeat' (first | (with_reducible exact Ext.refl _) | (with_reducible assumption) | (with_reducible refine Ext.drewN ?_ _) | (with_reducible refine Ext.drew ?_) | (with_reducible refine Ext.alloc ?_ _) | (with_reducible refine Ext.setCell ?_ ?_ _) | (with_reducible refine Ext.setRow ?_ ?_ _) | (with_reducible exact Nat.le_refl _) | (with_reducible refine Ext.trans ?_ (by assumption)) | omega))) q0 q1 q2 q3).mono ?_
  rintro e w2 ⟨_, rfl, hx2, Fu, gu⟩
  obtain ⟨au0, nu0, ku0, au1, nu1, ku1, au4, nu4, ku4, au5, nu5, ku5, rfl⟩ := gu.rd.shape
  have lu := gu.low; (try simp only [World.size_alloc] at lu)
  have X2 : Ext w1 w2 := by repeat' (first | (with_reducible exact Ext.refl _) | (with_reducible assumption) | (with_reducible refine Ext.drewN ?_ _) | (with_reducible refine Ext.drew ?_) | (with_reducible refine Ext.alloc ?_ _) | (with_reducible refine Ext.setCell ?_ ?_ _) | (with_reducible refine Ext.setRow ?_ ?_ _) | (with_reducible exact Nat.le_refl _) | (with_reducible refine Ext.trans ?_ (by assumption)) | omega)
  have Z2 := X2.size
  have E2 : Ext w w2 := E1.trans X2
  have Ba := Ba.ext X2
  clear hx2
  clear CBa LBa
  have CBa := Ba.cell; have LBa := Ba.lt
  go_wp2_with fail
  refine (sRisenStore_k ((gu.rd).ext (by repeat' (first | (with_reducible exact Ext.refl _) | (with_reducible assumption) | (with_reducible refine Ext.drewN ?_ _) | (with_reducible refine Ext.drew ?_) | (with_reducible refine Ext.alloc ?_ _) | (with_reducible refine Ext.setCell ?_ ?_ _) | (with_reducible refine Ext.setRow ?_ ?_ _) | (with_reducible exact Nat.le_refl _) | (with_reducible refine Ext.trans ?_ (by assumption)) | omega)))).mono ?_
  rintro e w3 ⟨_, rfl, hx3, vw, rfl, Fw, gw⟩
  obtain ⟨aw0, nw0, kw0, aw1, nw1, kw1, aw4, nw4, kw4, aw5, nw5, kw5, rfl⟩ := gw.rd.shape
  have lw := gw.low; (try simp only [World.size_alloc] at lw)
  have X3 : Ext w2 w3 := by repeat' (first | (with_reducible exact Ext.refl _) | (with_reducible assumption) | (with_reducible refine Ext.drewN ?_ _) | (with_reducible refine Ext.drew ?_) | (with_reducible refine Ext.alloc ?_ _) | (with_reducible refine Ext.setCell ?_ ?_ _) | (with_reducible refine Ext.setRow ?_ ?_ _) | (with_reducible exact Nat.le_refl _) | (with_reducible refine Ext.trans ?_ (by assumption)) | omega)
  have Z3 := X3.size
  have E3 : Ext w w3 := E2.trans X3
  have Ba := Ba.ext X3
  have gu := gu.ext X3
  clear hx3
  clear CBa LBa
  have CBa := Ba.cell; have LBa := Ba.lt
  go_wp2_with fail
  refine (to_Store (h0.ext (by repeat' (first | (with_reducible exact Ext.refl _) | (with_reducible assumption) | (with_reducible refine Ext.drewN ?_ _) | (with_reducible refine Ext.drew ?_) | (with_reducible refine Ext.alloc ?_ _) | (with_reducible refine Ext.setCell ?_ ?_ _) | (with_reducible refine Ext.setRow ?_ ?_ _) | (with_reducible exact Nat.le_refl _) | (with_reducible refine Ext.trans ?_ (by assumption)) | omega))) q0 q1 q2 q3).mono ?_
  rintro e w4 ⟨_, rfl, hx4, Fx, gx⟩
  obtain ⟨ax0, nx0, kx0, ax1, nx1, kx1, ax4, nx4, kx4, ax5, nx5, kx5, rfl⟩ := gx.rd.shape
  have lx := gx.low; (try simp only [World.size_alloc] at lx)
  have X4 : Ext w3 w4 := by repeat' (first | (with_reducible exact Ext.refl _) | (with_reducible assumption) | (with_reducible refine Ext.drewN ?_ _) | (with_reducible refine Ext.drew ?_) | (with_reducible refine Ext.alloc ?_ _) | (with_reducible refine Ext.setCell ?_ ?_ _) | (with_reducible refine Ext.setRow ?_ ?_ _) | (with_reducible exact Nat.le_refl _) | (with_reducible refine Ext.trans ?_ (by assumption)) | omega)
  have Bw : Blk w4 w3.heap.size 58 #[.slice aw0 nw0 kw0, .slice aw1 nw1 kw1, .int .i64 (riD S).State.Index, .int .i64 (riD S).State.Time, .slice aw4 nw4 kw4, .slice aw5 nw5 kw5, .int .i64 (riD S).State.Lease.Holder, .int .i64 (riD S).State.Lease.Epoch, .int .i64 (riD S).State.Lease.Until, .int .i64 (riD S).Num, .int .i64 (riD S).Last, .int .i64 (riD S).Busy] := (Blk.new w3 58 #[.slice aw0 nw0 kw0, .slice aw1 nw1 kw1, .int .i64 (riD S).State.Index, .int .i64 (riD S).State.Time, .slice aw4 nw4 kw4, .slice aw5 nw5 kw5, .int .i64 (riD S).State.Lease.Holder, .int .i64 (riD S).State.Lease.Epoch, .int .i64 (riD S).State.Lease.Until, .int .i64 (riD S).Num, .int .i64 (riD S).Last, .int .i64 (riD S).Busy]).ext hx4
  have MBw := Bw.lt
  have Z4 := X4.size
  have E4 : Ext w w4 := E3.trans X4
  have Ba := Ba.ext X4
  have gw := gw.ext X4
  clear hx4
  clear CBa LBa
  have CBa := Ba.cell; have LBa := Ba.lt
  have CBw := Bw.cell; have LBw := Bw.lt
  go_wp2_with fail
  refine (risenStore_k ((gx.rd).ext (by repeat' (first | (with_reducible exact Ext.refl _) | (with_reducible assumption) | (with_reducible refine Ext.drewN ?_ _) | (with_reducible refine Ext.drew ?_) | (with_reducible refine Ext.alloc ?_ _) | (with_reducible refine Ext.setCell ?_ ?_ _) | (with_reducible refine Ext.setRow ?_ ?_ _) | (with_reducible exact Nat.le_refl _) | (with_reducible refine Ext.trans ?_ (by assumption)) | omega)))).mono ?_
  rintro e w5 ⟨_, rfl, hx5, vg, rfl, Fg, gg⟩
  obtain ⟨ag0, ng0, kg0, ag1, ng1, kg1, ag4, ng4, kg4, ag5, ng5, kg5, rfl⟩ := gg.rd.shape
  have lg := gg.low; (try simp only [World.size_alloc] at lg)
  have X5 : Ext w4 w5 := by repeat' (first | (with_reducible exact Ext.refl _) | (with_reducible assumption) | (with_reducible refine Ext.drewN ?_ _) | (with_reducible refine Ext.drew ?_) | (with_reducible refine Ext.alloc ?_ _) | (with_reducible refine Ext.setCell ?_ ?_ _) | (with_reducible refine Ext.setRow ?_ ?_ _) | (with_reducible exact Nat.le_refl _) | (with_reducible refine Ext.trans ?_ (by assumption)) | omega)
  have Bx : Blk w5 w4.heap.size 58 #[.slice ax0 nx0 kx0, .slice ax1 nx1 kx1, .int .i64 S.State.Index, .int .i64 S.State.Time, .slice ax4 nx4 kx4, .slice ax5 nx5 kx5, .int .i64 S.State.Lease.Holder, .int .i64 S.State.Lease.Epoch, .int .i64 S.State.Lease.Until, .int .i64 S.Num, .int .i64 S.Last, .int .i64 S.Busy] := (Blk.new w4 58 #[.slice ax0 nx0 kx0, .slice ax1 nx1 kx1, .int .i64 S.State.Index, .int .i64 S.State.Time, .slice ax4 nx4 kx4, .slice ax5 nx5 kx5, .int .i64 S.State.Lease.Holder, .int .i64 S.State.Lease.Epoch, .int .i64 S.State.Lease.Until, .int .i64 S.Num, .int .i64 S.Last, .int .i64 S.Busy]).ext hx5
  have MBx := Bx.lt
  have Z5 := X5.size
  have E5 : Ext w w5 := E4.trans X5
  have Ba := Ba.ext X5
  have gw := gw.ext X5
  have Bw := Bw.ext X5
  have gx := gx.ext X5
  clear hx5
  clear CBa LBa CBw LBw
  have CBa := Ba.cell; have LBa := Ba.lt
  have CBw := Bw.cell; have LBw := Bw.lt
  have CBx := Bx.cell; have LBx := Bx.lt
  as_aux_lemma =>
    go_wp2_with fail
    refine (eq_Store ((gg.rd).ext (by repeat' (first | (with_reducible exact Ext.refl _) | (with_reducible assumption) | (with_reducible refine Ext.drewN ?_ _) | (with_reducible refine Ext.drew ?_) | (with_reducible refine Ext.alloc ?_ _) | (with_reducible refine Ext.setCell ?_ ?_ _) | (with_reducible refine Ext.setRow ?_ ?_ _) | (with_reducible exact Nat.le_refl _) | (with_reducible refine Ext.trans ?_ (by assumption)) | omega))) ((gw.rd).ext (by repeat' (first | (with_reducible exact Ext.refl _) | (with_reducible assumption) | (with_reducible refine Ext.drewN ?_ _) | (with_reducible refine Ext.drew ?_) | (with_reducible refine Ext.alloc ?_ _) | (with_reducible refine Ext.setCell ?_ ?_ _) | (with_reducible refine Ext.setRow ?_ ?_ _) | (with_reducible exact Nat.le_refl _) | (with_reducible refine Ext.trans ?_ (by assumption)) | omega)))).mono ?_
    rintro e w6 ⟨rfl, hx6⟩
    have X6 : Ext w5 w6 := by repeat' (first | (with_reducible exact Ext.refl _) | (with_reducible assumption) | (with_reducible refine Ext.drewN ?_ _) | (with_reducible refine Ext.drew ?_) | (with_reducible refine Ext.alloc ?_ _) | (with_reducible refine Ext.setCell ?_ ?_ _) | (with_reducible refine Ext.setRow ?_ ?_ _) | (with_reducible exact Nat.le_refl _) | (with_reducible refine Ext.trans ?_ (by assumption)) | omega)
    have Bg : Blk w6 w5.heap.size 58 #[.slice ag0 ng0 kg0, .slice ag1 ng1 kg1, .int .i64 (riD S).State.Index, .int .i64 (riD S).State.Time, .slice ag4 ng4 kg4, .slice ag5 ng5 kg5, .int .i64 (riD S).State.Lease.Holder, .int .i64 (riD S).State.Lease.Epoch, .int .i64 (riD S).State.Lease.Until, .int .i64 (riD S).Num, .int .i64 (riD S).Last, .int .i64 (riD S).Busy] := (Blk.new w5 58 #[.slice ag0 ng0 kg0, .slice ag1 ng1 kg1, .int .i64 (riD S).State.Index, .int .i64 (riD S).State.Time, .slice ag4 ng4 kg4, .slice ag5 ng5 kg5, .int .i64 (riD S).State.Lease.Holder, .int .i64 (riD S).State.Lease.Epoch, .int .i64 (riD S).State.Lease.Until, .int .i64 (riD S).Num, .int .i64 (riD S).Last, .int .i64 (riD S).Busy]).ext hx6
    have MBg := Bg.lt
    have Z6 := X6.size
    have E6 : Ext w w6 := E5.trans X6
    have Ba := Ba.ext X6
    have gw := gw.ext X6
    have Bw := Bw.ext X6
    have gx := gx.ext X6
    have Bx := Bx.ext X6
    have gg := gg.ext X6
    clear hx6
    clear CBa LBa CBw LBw CBx LBx
    have CBa := Ba.cell; have LBa := Ba.lt
    have CBw := Bw.cell; have LBw := Bw.lt
    have CBx := Bx.cell; have LBx := Bx.lt
    have CBg := Bg.cell; have LBg := Bg.lt
    go_wp2_with fail
    have ya0 : ∀ w', Ext w6 w' → w'.cell? ⟨_, 0, none⟩ = some (.slice a0_0 n0_0 k0_0) := fun w' hw => (Ba.ext hw).cell 0
    have ya1 : ∀ w', Ext w6 w' → w'.cell? ⟨_, 1, none⟩ = some (.slice a0_1 n0_1 k0_1) := fun w' hw => (Ba.ext hw).cell 1
    have ya2 : ∀ w', Ext w6 w' → w'.cell? ⟨_, 2, none⟩ = some (.int .i64 c0_2) := fun w' hw => (Ba.ext hw).cell 2
    have ya3 : ∀ w', Ext w6 w' → w'.cell? ⟨_, 3, none⟩ = some (.int .i64 c0_3) := fun w' hw => (Ba.ext hw).cell 3
    have ya4 : ∀ w', Ext w6 w' → w'.cell? ⟨_, 4, none⟩ = some (.slice a0_4 n0_4 k0_4) := fun w' hw => (Ba.ext hw).cell 4
    have ya5 : ∀ w', Ext w6 w' → w'.cell? ⟨_, 5, none⟩ = some (.slice a0_5 n0_5 k0_5) := fun w' hw => (Ba.ext hw).cell 5
    have ya6 : ∀ w', Ext w6 w' → w'.cell? ⟨_, 6, none⟩ = some (.int .i64 c0_6) := fun w' hw => (Ba.ext hw).cell 6
    have ya7 : ∀ w', Ext w6 w' → w'.cell? ⟨_, 7, none⟩ = some (.int .i64 c0_7) := fun w' hw => (Ba.ext hw).cell 7
    have ya8 : ∀ w', Ext w6 w' → w'.cell? ⟨_, 8, none⟩ = some (.int .i64 c0_8) := fun w' hw => (Ba.ext hw).cell 8
    have ya9 : ∀ w', Ext w6 w' → w'.cell? ⟨_, 9, none⟩ = some (.int .i64 c0_9) := fun w' hw => (Ba.ext hw).cell 9
    have ya10 : ∀ w', Ext w6 w' → w'.cell? ⟨_, 10, none⟩ = some (.int .i64 c0_10) := fun w' hw => (Ba.ext hw).cell 10
    have ya11 : ∀ w', Ext w6 w' → w'.cell? ⟨_, 11, none⟩ = some (.int .i64 c0_11) := fun w' hw => (Ba.ext hw).cell 11
    have yb0 : ∀ w', Ext w6 w' → w'.cell? ⟨_, 0, none⟩ = some (.slice ax0 nx0 kx0) := fun w' hw => (Bx.ext hw).cell 0
    have yb1 : ∀ w', Ext w6 w' → w'.cell? ⟨_, 1, none⟩ = some (.slice ax1 nx1 kx1) := fun w' hw => (Bx.ext hw).cell 1
    have yb2 : ∀ w', Ext w6 w' → w'.cell? ⟨_, 2, none⟩ = some (.int .i64 S.State.Index) := fun w' hw => (Bx.ext hw).cell 2
    have yb3 : ∀ w', Ext w6 w' → w'.cell? ⟨_, 3, none⟩ = some (.int .i64 S.State.Time) := fun w' hw => (Bx.ext hw).cell 3
    have yb4 : ∀ w', Ext w6 w' → w'.cell? ⟨_, 4, none⟩ = some (.slice ax4 nx4 kx4) := fun w' hw => (Bx.ext hw).cell 4
    have yb5 : ∀ w', Ext w6 w' → w'.cell? ⟨_, 5, none⟩ = some (.slice ax5 nx5 kx5) := fun w' hw => (Bx.ext hw).cell 5
    have yb6 : ∀ w', Ext w6 w' → w'.cell? ⟨_, 6, none⟩ = some (.int .i64 S.State.Lease.Holder) := fun w' hw => (Bx.ext hw).cell 6
    have yb7 : ∀ w', Ext w6 w' → w'.cell? ⟨_, 7, none⟩ = some (.int .i64 S.State.Lease.Epoch) := fun w' hw => (Bx.ext hw).cell 7
    have yb8 : ∀ w', Ext w6 w' → w'.cell? ⟨_, 8, none⟩ = some (.int .i64 S.State.Lease.Until) := fun w' hw => (Bx.ext hw).cell 8
    have yb9 : ∀ w', Ext w6 w' → w'.cell? ⟨_, 9, none⟩ = some (.int .i64 S.Num) := fun w' hw => (Bx.ext hw).cell 9
    have yb10 : ∀ w', Ext w6 w' → w'.cell? ⟨_, 10, none⟩ = some (.int .i64 S.Last) := fun w' hw => (Bx.ext hw).cell 10
    have yb11 : ∀ w', Ext w6 w' → w'.cell? ⟨_, 11, none⟩ = some (.int .i64 S.Busy) := fun w' hw => (Bx.ext hw).cell 11
    clear CBa LBa CBw LBw CBx LBx CBg LBg
    go_region_held3 (fun w' => Ext w6 w') (first | exact Ext.drew (Ext.refl _) | exact Ext.trans (by assumption) hx7 | exact Ext.trans (by assumption) hx8) (first | (go_at_call 21; refine (to_Store (h0.ext (Ext.trans E6 (by assumption))) q0 q1 q2 q3).mono ?_; rintro e w7 ⟨_, rfl, hx7, Fz, gz⟩; obtain ⟨az0, nz0, kz0, az1, nz1, kz1, az4, nz4, kz4, az5, nz5, kz5, rfl⟩ := gz.rd.shape) | (go_at_call 23; refine (eq_Store ((gx.rd).ext (by assumption)) gz.rd).mono ?_; rintro e w8 ⟨rfl, hx8⟩))
    have X8 : Ext w6 w8 := by assumption
    clear ya0 yb0 ya1 yb1 ya2 yb2 ya3 yb3 ya4 yb4 ya5 yb5 ya6 yb6 ya7 yb7 ya8 yb8 ya9 yb9 ya10 yb10 ya11 yb11 hx8
    have Z8 := X8.size; have E8 : Ext w w8 := E6.trans X8
    have Ba := Ba.ext X8
    have gw := gw.ext X8
    have Bw := Bw.ext X8
    have gx := gx.ext X8
    have Bx := Bx.ext X8
    have gg := gg.ext X8
    have Bg := Bg.ext X8
    have CBa := Ba.cell; have LBa := Ba.lt
    have CBw := Bw.cell; have LBw := Bw.lt
    have CBx := Bx.cell; have LBx := Bx.lt
    have CBg := Bg.cell; have LBg := Bg.lt
    as_aux_lemma =>
      go_wp2_with fail
      refine (mark_Store (gx.ext (by repeat' (first | (with_reducible exact Ext.refl _) | (with_reducible assumption) | (with_reducible refine Ext.drewN ?_ _) | (with_reducible refine Ext.drew ?_) | (with_reducible refine Ext.alloc ?_ _) | (with_reducible refine Ext.setCell ?_ ?_ _) | (with_reducible refine Ext.setRow ?_ ?_ _) | (with_reducible exact Nat.le_refl _) | (with_reducible refine Ext.trans ?_ (by assumption)) | omega))) (by omega) (by have := nx; omega)).mono ?_
      rintro e w9 ⟨rfl, hx9, gxm⟩
      have X9 : Upd w8 w9 Fx := (Ext.upd (by repeat' (first | (with_reducible exact Ext.refl _) | (with_reducible assumption) | (with_reducible refine Ext.drewN ?_ _) | (with_reducible refine Ext.drew ?_) | (with_reducible refine Ext.alloc ?_ _) | (with_reducible refine Ext.setCell ?_ ?_ _) | (with_reducible refine Ext.setRow ?_ ?_ _) | (with_reducible exact Nat.le_refl _) | (with_reducible refine Ext.trans ?_ (by assumption)) | omega)) _).trans hx9
      have Z9 := X9.size
      have E9 : Ext w w9 := E8.upd_below X9 (fun k hk => by have := lx k hk; omega)
      have Ba := Ba.upd X9 (fun hk => by have := lx _ hk; omega)
      have gw := gw.upd X9 (fun k hk hk' => by have := lx k hk'; have := lw k hk; omega)
      have Bw := Bw.upd X9 (fun hk => by have := lx _ hk; omega)
      have Bx := Bx.upd X9 (fun hk => by have := lx _ hk; omega)
      have gg := gg.upd X9 (fun k hk hk' => by have := lx k hk'; have := lg k hk; omega)
      have Bg := Bg.upd X9 (fun hk => by have := lx _ hk; omega)
      obtain ⟨K, hK⟩ : ∃ z : Int, z = 1 + ((nStore (S) : Nat) : Int) := ⟨_, rfl⟩
      rw [← hK]
      have pK : 0 ≤ K := by omega
      have rK : K ≤ 1000000000 := by have := nx; omega
      have HK := Lib.hid hK
      clear hK
      have dK : decide (K < 0) = false := by simp; omega
      clear hx9
      clear CBa LBa CBw LBw CBx LBx CBg LBg
      have CBa := Ba.cell; have LBa := Ba.lt
      have CBw := Bw.cell; have LBw := Bw.lt
      have CBx := Bx.cell; have LBx := Bx.lt
      have CBg := Bg.cell; have LBg := Bg.lt
      go_wp2_with fail
      refine (eq_Store ((gg.rd).ext (by repeat' (first | (with_reducible exact Ext.refl _) | (with_reducible assumption) | (with_reducible refine Ext.drewN ?_ _) | (with_reducible refine Ext.drew ?_) | (with_reducible refine Ext.alloc ?_ _) | (with_reducible refine Ext.setCell ?_ ?_ _) | (with_reducible refine Ext.setRow ?_ ?_ _) | (with_reducible exact Nat.le_refl _) | (with_reducible refine Ext.trans ?_ (by assumption)) | omega))) ((gw.rd).ext (by repeat' (first | (with_reducible exact Ext.refl _) | (with_reducible assumption) | (with_reducible refine Ext.drewN ?_ _) | (with_reducible refine Ext.drew ?_) | (with_reducible refine Ext.alloc ?_ _) | (with_reducible refine Ext.setCell ?_ ?_ _) | (with_reducible refine Ext.setRow ?_ ?_ _) | (with_reducible exact Nat.le_refl _) | (with_reducible refine Ext.trans ?_ (by assumption)) | omega)))).mono ?_
      rintro e w10 ⟨rfl, hx10⟩
      have X10 : Ext w9 w10 := by repeat' (first | (with_reducible exact Ext.refl _) | (with_reducible assumption) | (with_reducible refine Ext.drewN ?_ _) | (with_reducible refine Ext.drew ?_) | (with_reducible refine Ext.alloc ?_ _) | (with_reducible refine Ext.setCell ?_ ?_ _) | (with_reducible refine Ext.setRow ?_ ?_ _) | (with_reducible exact Nat.le_refl _) | (with_reducible refine Ext.trans ?_ (by assumption)) | omega)
      have Z10 := X10.size
      have E10 : Ext w w10 := E9.trans X10
      have Ba := Ba.ext X10
      have gw := gw.ext X10
      have Bw := Bw.ext X10
      have Bx := Bx.ext X10
      have gg := gg.ext X10
      have Bg := Bg.ext X10
      clear hx10
      clear CBa LBa CBw LBw CBx LBx CBg LBg
      have CBa := Ba.cell; have LBa := Ba.lt
      have CBw := Bw.cell; have LBw := Bw.lt
      have CBx := Bx.cell; have LBx := Bx.lt
      have CBg := Bg.cell; have LBg := Bg.lt
      go_wp2_with fail
      refine (mark_Store (gg.ext (by repeat' (first | (with_reducible exact Ext.refl _) | (with_reducible assumption) | (with_reducible refine Ext.drewN ?_ _) | (with_reducible refine Ext.drew ?_) | (with_reducible refine Ext.alloc ?_ _) | (with_reducible refine Ext.setCell ?_ ?_ _) | (with_reducible refine Ext.setRow ?_ ?_ _) | (with_reducible exact Nat.le_refl _) | (with_reducible refine Ext.trans ?_ (by assumption)) | omega))) (by omega) (by have := nb; omega)).mono ?_
      rintro e w11 ⟨rfl, hx11, gm⟩
      have X11 : Upd w10 w11 Fg := (Ext.upd (by repeat' (first | (with_reducible exact Ext.refl _) | (with_reducible assumption) | (with_reducible refine Ext.drewN ?_ _) | (with_reducible refine Ext.drew ?_) | (with_reducible refine Ext.alloc ?_ _) | (with_reducible refine Ext.setCell ?_ ?_ _) | (with_reducible refine Ext.setRow ?_ ?_ _) | (with_reducible exact Nat.le_refl _) | (with_reducible refine Ext.trans ?_ (by assumption)) | omega)) _).trans hx11
      have Z11 := X11.size
      have E11 : Ext w w11 := E10.upd_below X11 (fun k hk => by have := lg k hk; omega)
      have Ba := Ba.upd X11 (fun hk => by have := lg _ hk; omega)
      have gw := gw.upd X11 (fun k hk hk' => by have := lg k hk'; have := lw k hk; omega)
      have Bw := Bw.upd X11 (fun hk => by have := lg _ hk; omega)
      have Bx := Bx.upd X11 (fun hk => by have := lg _ hk; omega)
      have Bg := Bg.upd X11 (fun hk => by have := lg _ hk; omega)
      obtain ⟨N, hN⟩ : ∃ z : Int, z = 1 + ((nStore (riD S) : Nat) : Int) := ⟨_, rfl⟩
      rw [← hN]
      have pN : 0 ≤ N := by omega
      have rN : N ≤ 1000000000 := by have := nb; omega
      have HN := Lib.hid hN
      clear hN
      have dN : decide (N < 0) = false := by simp; omega
      clear hx11
      clear CBa LBa CBw LBw CBx LBx CBg LBg
      have CBa := Ba.cell; have LBa := Ba.lt
      have CBw := Bw.cell; have LBw := Bw.lt
      have CBx := Bx.cell; have LBx := Bx.lt
      have CBg := Bg.cell; have LBg := Bg.lt
      go_wp2_with fail
      refine (held_Store (gm.ext (by repeat' (first | (with_reducible exact Ext.refl _) | (with_reducible assumption) | (with_reducible refine Ext.drewN ?_ _) | (with_reducible refine Ext.drew ?_) | (with_reducible refine Ext.alloc ?_ _) | (with_reducible refine Ext.setCell ?_ ?_ _) | (with_reducible refine Ext.setRow ?_ ?_ _) | (with_reducible exact Nat.le_refl _) | (with_reducible refine Ext.trans ?_ (by assumption)) | omega))) (by omega) (by have := nb; omega)).mono ?_
      rintro e w12 ⟨rfl, hx12⟩
      rw [← HN.out]
      have X12 : Ext w11 w12 := by repeat' (first | (with_reducible exact Ext.refl _) | (with_reducible assumption) | (with_reducible refine Ext.drewN ?_ _) | (with_reducible refine Ext.drew ?_) | (with_reducible refine Ext.alloc ?_ _) | (with_reducible refine Ext.setCell ?_ ?_ _) | (with_reducible refine Ext.setRow ?_ ?_ _) | (with_reducible exact Nat.le_refl _) | (with_reducible refine Ext.trans ?_ (by assumption)) | omega)
      have Z12 := X12.size
      have E12 : Ext w w12 := E11.trans X12
      have Ba := Ba.ext X12
      have gw := gw.ext X12
      have Bw := Bw.ext X12
      have Bx := Bx.ext X12
      have Bg := Bg.ext X12
      have gm := gm.ext X12
      clear hx12
      clear CBa LBa CBw LBw CBx LBx CBg LBg
      have CBa := Ba.cell; have LBa := Ba.lt
      have CBw := Bw.cell; have LBw := Bw.lt
      have CBx := Bx.cell; have LBx := Bx.lt
      have CBg := Bg.cell; have LBg := Bg.lt
      go_wp2_with fail
      refine (to_Store (h0.ext (by repeat' (first | (with_reducible exact Ext.refl _) | (with_reducible assumption) | (with_reducible refine Ext.drewN ?_ _) | (with_reducible refine Ext.drew ?_) | (with_reducible refine Ext.alloc ?_ _) | (with_reducible refine Ext.setCell ?_ ?_ _) | (with_reducible refine Ext.setRow ?_ ?_ _) | (with_reducible exact Nat.le_refl _) | (with_reducible refine Ext.trans ?_ (by assumption)) | omega))) q0 q1 q2 q3).mono ?_
      rintro e w13 ⟨_, rfl, hx13, Fy, gy⟩
      obtain ⟨ay0, ny0, ky0, ay1, ny1, ky1, ay4, ny4, ky4, ay5, ny5, ky5, rfl⟩ := gy.rd.shape
      have ly := gy.low; (try simp only [World.size_alloc] at ly)
      have X13 : Ext w12 w13 := by repeat' (first | (with_reducible exact Ext.refl _) | (with_reducible assumption) | (with_reducible refine Ext.drewN ?_ _) | (with_reducible refine Ext.drew ?_) | (with_reducible refine Ext.alloc ?_ _) | (with_reducible refine Ext.setCell ?_ ?_ _) | (with_reducible refine Ext.setRow ?_ ?_ _) | (with_reducible exact Nat.le_refl _) | (with_reducible refine Ext.trans ?_ (by assumption)) | omega)
      have Z13 := X13.size
      have E13 : Ext w w13 := E12.trans X13
      have Ba := Ba.ext X13
      have gw := gw.ext X13
      have Bw := Bw.ext X13
      have Bx := Bx.ext X13
      have Bg := Bg.ext X13
      have gm := gm.ext X13
      clear hx13
      clear CBa LBa CBw LBw CBx LBx CBg LBg
      have CBa := Ba.cell; have LBa := Ba.lt
      have CBw := Bw.cell; have LBw := Bw.lt
      have CBx := Bx.cell; have LBx := Bx.lt
      have CBg := Bg.cell; have LBg := Bg.lt
      go_wp2_with fail
      refine (risenStore_k ((gy.rd).ext (by repeat' (first | (with_reducible exact Ext.refl _) | (with_reducible assumption) | (with_reducible refine Ext.drewN ?_ _) | (with_reducible refine Ext.drew ?_) | (with_reducible refine Ext.alloc ?_ _) | (with_reducible refine Ext.setCell ?_ ?_ _) | (with_reducible refine Ext.setRow ?_ ?_ _) | (with_reducible exact Nat.le_refl _) | (with_reducible refine Ext.trans ?_ (by assumption)) | omega)))).mono ?_
      rintro e w14 ⟨_, rfl, hx14, vh, rfl, Fh, gh⟩
      obtain ⟨ah0, nh0, kh0, ah1, nh1, kh1, ah4, nh4, kh4, ah5, nh5, kh5, rfl⟩ := gh.rd.shape
      have lh := gh.low; (try simp only [World.size_alloc] at lh)
      have X14 : Ext w13 w14 := by repeat' (first | (with_reducible exact Ext.refl _) | (with_reducible assumption) | (with_reducible refine Ext.drewN ?_ _) | (with_reducible refine Ext.drew ?_) | (with_reducible refine Ext.alloc ?_ _) | (with_reducible refine Ext.setCell ?_ ?_ _) | (with_reducible refine Ext.setRow ?_ ?_ _) | (with_reducible exact Nat.le_refl _) | (with_reducible refine Ext.trans ?_ (by assumption)) | omega)
      have Z14 := X14.size
      have E14 : Ext w w14 := E13.trans X14
      have Ba := Ba.ext X14
      have gw := gw.ext X14
      have Bw := Bw.ext X14
      have Bx := Bx.ext X14
      have Bg := Bg.ext X14
      have gm := gm.ext X14
      have gy := gy.ext X14
      clear hx14
      clear CBa LBa CBw LBw CBx LBx CBg LBg
      have CBa := Ba.cell; have LBa := Ba.lt
      have CBw := Bw.cell; have LBw := Bw.lt
      have CBx := Bx.cell; have LBx := Bx.lt
      have CBg := Bg.cell; have LBg := Bg.lt
      go_wp2_with fail
      refine (eq_Store ((gh.rd).ext (by repeat' (first | (with_reducible exact Ext.refl _) | (with_reducible assumption) | (with_reducible refine Ext.drewN ?_ _) | (with_reducible refine Ext.drew ?_) | (with_reducible refine Ext.alloc ?_ _) | (with_reducible refine Ext.setCell ?_ ?_ _) | (with_reducible refine Ext.setRow ?_ ?_ _) | (with_reducible exact Nat.le_refl _) | (with_reducible refine Ext.trans ?_ (by assumption)) | omega))) ((gw.rd).ext (by repeat' (first | (with_reducible exact Ext.refl _) | (with_reducible assumption) | (with_reducible refine Ext.drewN ?_ _) | (with_reducible refine Ext.drew ?_) | (with_reducible refine Ext.alloc ?_ _) | (with_reducible refine Ext.setCell ?_ ?_ _) | (with_reducible refine Ext.setRow ?_ ?_ _) | (with_reducible exact Nat.le_refl _) | (with_reducible refine Ext.trans ?_ (by assumption)) | omega)))).mono ?_
      rintro e w15 ⟨rfl, hx15⟩
      have X15 : Ext w14 w15 := by repeat' (first | (with_reducible exact Ext.refl _) | (with_reducible assumption) | (with_reducible refine Ext.drewN ?_ _) | (with_reducible refine Ext.drew ?_) | (with_reducible refine Ext.alloc ?_ _) | (with_reducible refine Ext.setCell ?_ ?_ _) | (with_reducible refine Ext.setRow ?_ ?_ _) | (with_reducible exact Nat.le_refl _) | (with_reducible refine Ext.trans ?_ (by assumption)) | omega)
      have Bh : Blk w15 w14.heap.size 58 #[.slice ah0 nh0 kh0, .slice ah1 nh1 kh1, .int .i64 (riD S).State.Index, .int .i64 (riD S).State.Time, .slice ah4 nh4 kh4, .slice ah5 nh5 kh5, .int .i64 (riD S).State.Lease.Holder, .int .i64 (riD S).State.Lease.Epoch, .int .i64 (riD S).State.Lease.Until, .int .i64 (riD S).Num, .int .i64 (riD S).Last, .int .i64 (riD S).Busy] := (Blk.new w14 58 #[.slice ah0 nh0 kh0, .slice ah1 nh1 kh1, .int .i64 (riD S).State.Index, .int .i64 (riD S).State.Time, .slice ah4 nh4 kh4, .slice ah5 nh5 kh5, .int .i64 (riD S).State.Lease.Holder, .int .i64 (riD S).State.Lease.Epoch, .int .i64 (riD S).State.Lease.Until, .int .i64 (riD S).Num, .int .i64 (riD S).Last, .int .i64 (riD S).Busy]).ext hx15
      have MBh := Bh.lt
      have Z15 := X15.size
      have E15 : Ext w w15 := E14.trans X15
      have Ba := Ba.ext X15
      have gw := gw.ext X15
      have Bw := Bw.ext X15
      have Bx := Bx.ext X15
      have Bg := Bg.ext X15
      have gm := gm.ext X15
      have gh := gh.ext X15
      clear hx15
      clear CBa LBa CBw LBw CBx LBx CBg LBg
      have CBa := Ba.cell; have LBa := Ba.lt
      have CBw := Bw.cell; have LBw := Bw.lt
      have CBx := Bx.cell; have LBx := Bx.lt
      have CBg := Bg.cell; have LBg := Bg.lt
      have CBh := Bh.cell; have LBh := Bh.lt
      go_wp2_with fail
      refine (held_Store (gm.ext (by repeat' (first | (with_reducible exact Ext.refl _) | (with_reducible assumption) | (with_reducible refine Ext.drewN ?_ _) | (with_reducible refine Ext.drew ?_) | (with_reducible refine Ext.alloc ?_ _) | (with_reducible refine Ext.setCell ?_ ?_ _) | (with_reducible refine Ext.setRow ?_ ?_ _) | (with_reducible exact Nat.le_refl _) | (with_reducible refine Ext.trans ?_ (by assumption)) | omega))) (by omega) (by have := nb; omega)).mono ?_
      rintro e w16 ⟨rfl, hx16⟩
      rw [← HN.out]
      have X16 : Ext w15 w16 := by repeat' (first | (with_reducible exact Ext.refl _) | (with_reducible assumption) | (with_reducible refine Ext.drewN ?_ _) | (with_reducible refine Ext.drew ?_) | (with_reducible refine Ext.alloc ?_ _) | (with_reducible refine Ext.setCell ?_ ?_ _) | (with_reducible refine Ext.setRow ?_ ?_ _) | (with_reducible exact Nat.le_refl _) | (with_reducible refine Ext.trans ?_ (by assumption)) | omega)
      have Z16 := X16.size
      have E16 : Ext w w16 := E15.trans X16
      have Ba := Ba.ext X16
      have gw := gw.ext X16
      have Bw := Bw.ext X16
      have Bx := Bx.ext X16
      have Bg := Bg.ext X16
      have gm := gm.ext X16
      have gh := gh.ext X16
      have Bh := Bh.ext X16
      clear hx16
      clear CBa LBa CBw LBw CBx LBx CBg LBg CBh LBh
      have CBa := Ba.cell; have LBa := Ba.lt
      have CBw := Bw.cell; have LBw := Bw.lt
      have CBx := Bx.cell; have LBx := Bx.lt
      have CBg := Bg.cell; have LBg := Bg.lt
      have CBh := Bh.cell; have LBh := Bh.lt
      go_wp2
      go_ret
      exact ⟨rfl, E16⟩
end Go.Proofs.YthdiaijiokoifaaGreat

-- The statement FnExactRisenStore: for every input the law returns true.
namespace Go.Proofs.YthdiaijiokoifaaGreat.fnExactRisenStore
open Go.ChangeShapes Go.WideShapes Go.ChangeAt Go.RowKit Go.G8
open Go.Proofs.YthdiaijiokoifaaGreat.facts (b2)

set_option maxRecDepth 100000 in
theorem lifted (os : Os) (started : os.Started) (H : Type) (enc : TypeId × Value → H) :
    ReturnsInHanded {} Tryz.checked os 5 .any (Rows.fnExactRisenStoreSpec.pre6 enc Tryz.prog Tryz.f5 Rows.fnExactRisenStoreRow.domain false) (Rows.fnExactRisenStoreSpec.post enc Tryz.prog Tryz.f5 false true false false) := by
  refine returnsInHanded_of_change (C := Tryz.checked) own started (by kernel_rfl) Tryz.func5
    (ChangeSpec.witness6 (enc := enc) (C := Tryz.checked) false ⟨#[], #[.agg #[.slice none 0 0, .slice none 0 0, .int .i64 0, .int .i64 0, .slice none 0 0, .slice none 0 0, .int .i64 0, .int .i64 0, .int .i64 0, .int .i64 0, .int .i64 0, .int .i64 0]], []⟩ 8 (by kernel_rfl) (by kernel_rfl) (by kernel_rfl) (by kernel_rfl)) ?_
  intro W base args ds gs before hval0 hW _ _
  have hval : ∀ (j : Nat) t v, Tryz.f5.params[j]? = some t → args[j]? = some v → Value.okWide Tryz.prog W .any base t v := hval0
  have hW' := hW
  obtain ⟨p, q, hA0, hV, rfl, hfz, hnd⟩ := hW
  have hA : DataW.TrodAll enc Tryz.prog W 0 (fun _ => true) true Tryz.f5.params.toList args.toList ds p := hA0
  rw [Tryz.params5] at hA hval
  obtain ⟨v0, vs0, d0, ds0, p0, q0, hargs, rfl, rfl, h0, r0⟩ := trodAll_cons hA
  obtain ⟨rfl, rfl, rfl⟩ := trodAll_nil r0
  obtain rfl : args = #[v0] := by cases args; simp_all
  obtain ⟨rfl, rfl⟩ := trodVars_none hV
  have k0 := h0
  have lt0 : ∀ x ∈ p0, x.block < W.heap.size := by obtain ⟨m, hm⟩ := k0; exact DataW.trod_lt m _ _ _ hm
  have hv0 := hval 0 51 v0 rfl rfl
  unfold Value.okWide at hv0
  rw [Tryz.underlying51] at hv0
  obtain ⟨cs0, rfl, _, _⟩ := hv0
  obtain ⟨m0, hm0⟩ := h0
  obtain ⟨s0_0, l0_0, s0_1, l0_1, c0_2, c0_3, s0_4, l0_4, s0_5, l0_5, c0_6, c0_7, c0_8, c0_9, c0_10, c0_11, e0, g0_0, g0_1, g0_4, g0_5⟩ := rl_Store hm0
  obtain rfl : cs0 = #[s0_0, s0_1, .int .i64 c0_2, .int .i64 c0_3, s0_4, s0_5, .int .i64 c0_6, .int .i64 c0_7, .int .i64 c0_8, .int .i64 c0_9, .int .i64 c0_10, .int .i64 c0_11] := by cases cs0; simp_all [Value.cells]
  clear hA0 hval0
  refine (law_RisenStore W _ _ _ _ _ _ _ _ _ _ _ _ _ _ _ _ g0_0 g0_1 g0_4 g0_5).mono fun e W' ⟨he, bel0⟩ => ?_
  have bel : Below W.heap.size W W' := bel0
  subst he
  exact ⟨_, rfl, _, _, _, [], _, [], hW', trodAll_mk1 (shut_bool Tryz.underlying4 _), (trodAll_cons_mk (Below.trod laidOut (by kernel_rfl) (of_decide_eq_true (by kernel_rfl)) k0 bel lt0) trodAll_mk0), rfl, bel.frame _, fun h => by cases h⟩

theorem k0 : (Rows.fnExactRisenStoreRow.wf (OpenSpec.ofChange Rows.fnExactRisenStoreSpec)) = true := by kernel_rfl
theorem k1 : (laidOutB Tryz.checked.prog) = true := facts.k1
theorem k2 : (mapsRowed Tryz.checked.prog) = true := facts.k2
theorem k3 : (Tryz.f5.params.all (Tryz.checked.prog.readableRec ·)) = true := by kernel_rfl
theorem k4 : (namedTie Tryz.checked.prog Rows.fnExactRisenStoreRow.named Rows.fnExactRisenStoreSpec.vars) = true := by kernel_rfl
theorem k5 : ((Rows.fnExactRisenStoreRow.stops == [])) = true := by kernel_rfl
theorem k6 : ((Tryz.checked.prog.stops == [])) = true := facts.k6
theorem k7 : ((Rows.fnExactRisenStoreRow.knobs == [])) = true := by kernel_rfl
theorem k8 : ((Tryz.checked.prog.stopKnobs == [])) = true := facts.k8
theorem k9 : ((Rows.fnExactRisenStoreRow.inPlace == Tryz.checked.prog.inPlace 5)) = true := by kernel_rfl
theorem k10 : ((Rows.fnExactRisenStoreRow.unfollowed == Tryz.checked.prog.unfollowed 5)) = true := by kernel_rfl
theorem k11 : ((Rows.fnExactRisenStoreRow.recurses == Tryz.checked.prog.recurses 5)) = true := by kernel_rfl
theorem k12 : ((Rows.fnExactRisenStoreRow.named == Tryz.checked.prog.varsNamed 5)) = true := by kernel_rfl
theorem k13 : ((Rows.fnExactRisenStoreRow.maps == (Tryz.f5.params.toList ++ Rows.fnExactRisenStoreSpec.plain.varTypes Tryz.checked.prog).any (Tryz.checked.prog.mapsRec ·))) = true := by kernel_rfl
theorem k14 : ((Rows.fnExactRisenStoreRow.ifaces == (Tryz.f5.params.toList ++ Rows.fnExactRisenStoreSpec.plain.varTypes Tryz.checked.prog).any (Tryz.checked.prog.ifacesRec ·))) = true := by kernel_rfl
theorem k15 : ((Rows.fnExactRisenStoreRow.mapsOut == Tryz.checked.prog.mapsAmong Tryz.f5.resultTypes.toList)) = true := by kernel_rfl
theorem k16 : ((Rows.fnExactRisenStoreRow.loops == (Tryz.f5.params.toList ++ Rows.fnExactRisenStoreSpec.plain.varTypes Tryz.checked.prog).any (Tryz.checked.prog.loopsFrom ·))) = true := by kernel_rfl
theorem k17 : ((Rows.fnExactRisenStoreRow.wideKeys == (Tryz.f5.params.toList ++ Rows.fnExactRisenStoreSpec.plain.varTypes Tryz.checked.prog ++ Tryz.f5.resultTypes.toList).any (Tryz.checked.prog.wideKeysFrom ·))) = true := by kernel_rfl
theorem k18 : (Rows.fnExactRisenStoreSpec.vars.all (Tryz.checked.prog.varReadable ·)) = true := by kernel_rfl
theorem k19 : (Tryz.f5.resultTypes.all (fun t => Tryz.checked.prog.readableRec t && decide (t < Tryz.checked.prog.types.size))) = true := by kernel_rfl
theorem k20 : ((Rows.fnExactRisenStoreRow.ifacesOut == Tryz.f5.resultTypes.toList.any (Tryz.checked.prog.ifacesRec ·))) = true := by kernel_rfl
theorem k21 : ((Rows.fnExactRisenStoreRow.loopsOut == Tryz.f5.resultTypes.toList.any (Tryz.checked.prog.loopsFrom ·))) = true := by kernel_rfl
theorem k22 : ((Rows.fnExactRisenStoreRow.plainKeys == Tryz.checked.prog.plainKeys)) = true := facts.k22
theorem k23 : (Rows.fnExactRisenStoreRow.shortTexts.isNone) = true := by kernel_rfl
theorem k24 : (Tryz.checked.prog.stopsHeard) = true := facts.k24
theorem k25 : (Tryz.checked.prog.mayEnter) = true := facts.k25
theorem k26 : ((Rows.fnExactRisenStoreRow.lifted == Tryz.checked.prog.liftsFinal)) = true := facts.k26
theorem k27 : ((Tryz.checked.prog.make == some Rows.fnExactRisenStoreRow.make)) = true := facts.k27
theorem k28 : ((Rows.fnExactRisenStoreRow.kinds == (if Rows.fnExactRisenStoreRow.domain.isEmpty then [] else Tryz.f5.params.toList.map fun t => match Tryz.checked.prog.underlying t with | some (.int k) => some k | _ => none))) = true := by kernel_rfl
theorem k29 : ((Rows.fnExactRisenStoreRow.pinned == Rows.fnExactRisenStoreRow.pinnedBy)) = true := by kernel_rfl
theorem k30 : ((Rows.fnExactRisenStoreRow.veiled == (Tryz.f5.params.toList ++ Rows.fnExactRisenStoreSpec.plain.varTypes Tryz.checked.prog ++ Tryz.f5.resultTypes.toList).any (Tryz.checked.prog.veiledRec ·))) = true := by kernel_rfl
theorem k31 : (Rows.fnExactRisenStoreRow.veiledFits Tryz.checked.prog Tryz.f5.params.toList (Tryz.f5.params.toList ++ Rows.fnExactRisenStoreSpec.plain.varTypes Tryz.checked.prog ++ Tryz.f5.resultTypes.toList)) = true := by kernel_rfl
set_option maxRecDepth 100000 in
theorem closed : joinedFacts Tryz.checked.prog 5 Tryz.f5 Rows.fnExactRisenStoreSpec Rows.fnExactRisenStoreRow = true := by
  unfold joinedFacts
  exact (b2 (b2 (b2 (b2 (b2 (b2 (b2 (b2 (b2 (b2 (b2 (b2 (b2 (b2 (b2 (b2 (b2 (b2 (b2 (b2 (b2 (b2 (b2 (b2 (b2 (b2 (b2 (b2 (b2 (b2 (b2 k0 k1) k2) k3) k4) k5) k6) k7) k8) k9) k10) k11) k12) k13) k14) k15) k16) k17) k18) k19) k20) k21) k22) k23) k24) k25) k26) k27) k28) k29) k30) k31)

theorem proved : Rows.FnExactRisenStoreSaid :=
  OpenClaim.holds_of_wide 5 Tryz.f5 rfl rfl rfl rfl rfl rfl rfl ⟨rfl, rfl, rfl, rfl, rfl⟩ rfl rfl rfl rfl rfl (by as_aux_lemma => kernel_rfl) Tryz.func5 closed
    (of_decide_eq_true (by as_aux_lemma => kernel_rfl)) (by as_aux_lemma => (unfold Func.isWrapper; rw [if_neg (of_decide_eq_false (by kernel_rfl))]; exact ⟨rfl, rfl⟩))
    (fun os started H enc _ => lifted os started H enc)
end Go.Proofs.YthdiaijiokoifaaGreat.fnExactRisenStore
