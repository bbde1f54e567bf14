/- Contracts and plain laws: Ri. -/
import Derived.Test.YtlnkggpemdpemaaGreatYa
import Derived.Test.YtlnkggpemdpemaaGreatXo
import Derived.Test.YtlnkggpemdpemaaGreatYl
set_option linter.unusedSimpArgs false
set_option linter.unusedVariables false
set_option maxHeartbeats 8000000
set_option maxRecDepth 100000
namespace Go.G8
open Go.RowKit
open Go.Proofs.YtlnkggpemdpemaaGreat
noncomputable def riOk (s : DStore) : Bool := shelfOk s.Disk && decide (s.Disk.Wait.length = 0)
noncomputable def riD (s : DStore) : DStore := if riOk s then (if newOk s.Disk then ⟨wipedSlot s.Disk (1 - newAt s.Disk), (newShot s.Disk).State, (newShot s.Disk).Num, (newShot s.Disk).State.Index, 0⟩ else ⟨wipedSlot (wipedSlot s.Disk 0) 1, ⟨0, 0, [], [], ⟨0, 0, 0⟩⟩, 0, 0, 0⟩) else ⟨⟨[], []⟩, ⟨0, 0, [], [], ⟨0, 0, 0⟩⟩, 0, 0, 0⟩
end Go.G8
namespace Go.Proofs.YtlnkggpemdpemaaGreat
open Go.RowKit Go.G8
theorem wipedSlot_r {w : World} {v : Value} {d : DDisk} (h : RdDisk w v d) (c : Int) : Calls Tryz.prog 55 #[v, .int .i64 c] w (Ret w fun r w' => IsDisk w.heap.size w' r (wipedSlot d c)) := by
 obtain ⟨t0, t1, rfl, h0, h1⟩ := h
 exact wipedSlot_c w t0 d.Kept t1 d.Wait c h0 h1
theorem risenStore_k {w : World} {v : Value} {s : DStore} (h : RdStore w v s) : Calls Tryz.prog 24 #[v] w (Ret w fun r w' => ∃ u, r = .tuple #[u, .bool (riOk s)] ∧ ∃ F, OwStore w.heap.size w' u (riD s) F) := by
 obtain ⟨a0, n0, k0, a1, k1, a4, n4, k4, a5, n5, k5, rfl, hwl⟩ := h.wait
 have HDD := Lib.hid h.disk.1
 clear h
 obtain ⟨L, hL⟩ : ∃ L, L = s.Disk.Wait.length := ⟨_, rfl⟩
 rw [← hL] at HDD hwl ⊢
 have HL := Lib.hid hL
 clear hL
 obtain ⟨W1, hW1⟩ : ∃ W1, W1 = (w.alloc (.cells #[.slice a0 n0 k0, .slice a1 L k1, .int .i64 s.State.Index, .int .i64 s.State.Time, .slice a4 n4 k4, .slice a5 n5 k5, .int .i64 s.State.Lease.Holder, .int .i64 s.State.Lease.Epoch, .int .i64 s.State.Lease.Until, .int .i64 s.Num, .int .i64 s.Last, .int .i64 s.Busy] 41)).alloc (.cells #[.slice none 0 0, .slice none 0 0, .int .i64 0, .int .i64 0, .slice none 0 0, .slice none 0 0, .int .i64 0, .int .i64 0, .int .i64 0, .int .i64 0, .int .i64 0, .int .i64 0] 41) := ⟨_, rfl⟩
 have E1 : Ext w W1 := by rw [hW1]; exact ((Ext.refl _).alloc _).alloc _
 have KS1 : Blk W1 w.heap.size 41 #[.slice a0 n0 k0, .slice a1 L k1, .int .i64 s.State.Index, .int .i64 s.State.Time, .slice a4 n4 k4, .slice a5 n5 k5, .int .i64 s.State.Lease.Holder, .int .i64 s.State.Lease.Epoch, .int .i64 s.State.Lease.Until, .int .i64 s.Num, .int .i64 s.Last, .int .i64 s.Busy] := by rw [hW1]; exact (Blk.new _ _ _).alloc _
 have KR1 : Blk W1 (w.heap.size + 1) 41 #[.slice none 0 0, .slice none 0 0, .int .i64 0, .int .i64 0, .slice none 0 0, .slice none 0 0, .int .i64 0, .int .i64 0, .int .i64 0, .int .i64 0, .int .i64 0, .int .i64 0] := by rw [hW1]; exact Blk.new2 _ _ _ _
 have hz1 : w.heap.size + 1 < W1.heap.size := by rw [hW1]; simp
 have HW1 := Lib.hid hW1
 clear hW1
 go_enter Tryz.func24, Tryz.ntmps24
 go_wp2_with fail
 rw [← HW1.out]
 have CS1 := KS1.cell; have LS1 := KS1.lt
 go_wp2_with fail
 refine (shelfOk_r (HDD.out.ext E1)).mono ?_
 rintro e9 w2 ⟨rfl, hx2⟩
 have E2 : Ext w w2 := E1.trans hx2
 have hz2 := hx2.size
 have KS2 := KS1.ext hx2; have KR2 := KR1.ext hx2
 clear CS1 LS1
 have CS2 := KS2.cell; have LS2 := KS2.lt; have CR2 := KR2.cell; have FR2 := KR2.frozen; have LR2 := KR2.lt
 cases hsh : shelfOk s.Disk
 ·
  have e1 : riOk s = false := by simp [riOk, hsh]
  have e2 : riD s = ⟨⟨[], []⟩, ⟨0, 0, [], [], ⟨0, 0, 0⟩⟩, 0, 0, 0⟩ := by simp [riD, e1]
  have HA1 := Lib.hid e1; have HA2 := Lib.hid e2
  clear e1 e2
  go_wp2_with fail
  refine bodyPost_ret (by simp [results, Tryz.results24, go_sem, CR2, FR2, LR2]; try rfl) rfl ?_
  refine ⟨_, rfl, xT, _, by (rw [HA1.out]; try rfl), ?_⟩
  rw [HA2.out]
  exact OwStore.of (IsDisk.nil _ _) (OwnI.nil _ _ _ _) (OwnI.nil _ _ _ _)
 have HSH := Lib.hid hsh
 have HDK := Lib.hid (shelfOk_disk hsh)
 clear hsh
 skip
 by_cases hwt : L = 0
 rotate_left
 ·
  have e1 : riOk s = false := by simp only [riOk, ← HL.out]; simp [hwt]
  have e2 : riD s = ⟨⟨[], []⟩, ⟨0, 0, [], [], ⟨0, 0, 0⟩⟩, 0, 0, 0⟩ := by simp [riD, e1]
  have hw0 : decide (0 < L) = true := by simp; omega
  have hw1 : decide (L = 0) = false := by simp; omega
  skip
  have HA1 := Lib.hid e1; have HA2 := Lib.hid e2
  clear e1 e2
  go_wp2_with fail
  refine bodyPost_ret (by simp [results, Tryz.results24, go_sem, CR2, FR2, LR2]; try rfl) rfl ?_
  refine ⟨_, rfl, xT, _, by (rw [HA1.out]; try rfl), ?_⟩
  rw [HA2.out]
  exact OwStore.of (IsDisk.nil _ _) (OwnI.nil _ _ _ _) (OwnI.nil _ _ _ _)
 have hok : riOk s = true := by simp only [riOk, HSH.out, ← HL.out]; simp [hwt]
 have HOK := Lib.hid hok
 have hw0 : decide (0 < L) = false := by simp; omega
 have hw1 : decide (L = 0) = true := by simp; omega
 skip
 clear hok hwl hwt hw1
 go_wp2_with fail
 refine (newestShot_k (HDD.out.ext E2)).mono ?_
 rintro e9 w3 ⟨_, rfl, hx3, u, rfl, F9, gs⟩
 obtain ⟨N, hN⟩ : ∃ N, N = newShot s.Disk := ⟨_, rfl⟩
 obtain ⟨A, hA⟩ : ∃ A, A = newAt s.Disk := ⟨_, rfl⟩
 rw [← hN] at gs
 rw [← hA]
 have hat := newAt_is s.Disk
 rw [← hA] at hat
 obtain ⟨c3, m3, j3, c4, m4, j4, rfl⟩ := gs.rd.shape
 have hz3 := hx3.size
 obtain ⟨w4, hW4⟩ : ∃ w4, w4 = w3.alloc (.cells #[.int .i64 N.Num, .int .i64 N.State.Index, .int .i64 N.State.Time, .slice c3 m3 j3, .slice c4 m4 j4, .int .i64 N.State.Lease.Holder, .int .i64 N.State.Lease.Epoch, .int .i64 N.State.Lease.Until] 78) := ⟨_, rfl⟩
 have X4 : Ext w2 w4 := by rw [hW4]; exact hx3.alloc _
 have KN4 : Blk w4 w3.heap.size 78 #[.int .i64 N.Num, .int .i64 N.State.Index, .int .i64 N.State.Time, .slice c3 m3 j3, .slice c4 m4 j4, .int .i64 N.State.Lease.Holder, .int .i64 N.State.Lease.Epoch, .int .i64 N.State.Lease.Until] := by rw [hW4]; exact Blk.new _ _ _
 have gs4 : OwShot w2.heap.size w4 (.agg #[.int .i64 N.Num, .int .i64 N.State.Index, .int .i64 N.State.Time, .slice c3 m3 j3, .slice c4 m4 j4, .int .i64 N.State.Lease.Holder, .int .i64 N.State.Lease.Epoch, .int .i64 N.State.Lease.Until]) N F9 := gs.ext (by rw [hW4]; exact (Ext.refl _).alloc _)
 have HW4 := Lib.hid hW4
 have hz4 : w4.heap.size = w3.heap.size + 1 := by rw [hW4]; simp
 have HZ4 := Lib.hid hz4
 have hz4' : w3.heap.size < w4.heap.size := by omega
 have E4 : Ext w w4 := E2.trans X4
 have KS4 := KS2.ext X4; have KR4 := KR2.ext X4
 have KS3 := KS2.ext hx3
 clear hW4 hz4 CS2 LS2 CR2 FR2 LR2
 have CS3 := KS3.cell; have LS3 := KS3.lt
 cases hO : newOk s.Disk
 ·
  have e2 : riD s = ⟨wipedSlot (wipedSlot s.Disk 0) 1, ⟨0, 0, [], [], ⟨0, 0, 0⟩⟩, 0, 0, 0⟩ := by simp [riD, HOK.out, hO]
  have HA2 := Lib.hid e2
  clear e2 hO hN hA hat
  go_wp2_with fail
  rw [← HW4.out]
  clear CS3 LS3 KS3
  have CS4 := KS4.cell; have LS4 := KS4.lt
  refine (wipedSlot_r (HDD.out.ext E4) 0).mono ?_
  rintro e9 w5 ⟨_, rfl, hx5, gd⟩
  obtain ⟨b0, m0, j0, b1, m1, j1, rfl⟩ := gd.shape
  have E5 := E4.trans hx5
  clear CS4 LS4
  go_wp2_with fail
  refine (wipedSlot_r gd.rd 1).mono ?_
  rintro e9 w6 ⟨_, rfl, hx6, ge⟩
  obtain ⟨b0, m0, j0, b1, m1, j1, rfl⟩ := ge.shape
  have E6 := E5.trans hx6
  have KR6 := (KR4.ext hx5).ext hx6
  obtain ⟨CR6, FR6, LR6⟩ := KR6.cfl
  have hz5 := hx5.size; have hz6 := hx6.size
  go_wp2_with fail
  refine bodyPost_ret (by simp [results, Tryz.results24, go_sem, CR6, FR6, LR6]; try rfl) rfl ?_
  refine ⟨_, rfl, xT, _, by (rw [HOK.out]; try rfl), ?_⟩
  rw [HA2.out]
  exact OwStore.of (IsDisk.mono (IsDisk.keep ge chgT) oM) (OwnI.nil _ _ _ _) (OwnI.nil _ _ _ _)
 have e2 : riD s = ⟨wipedSlot s.Disk (1 - A), N.State, N.Num, N.State.Index, 0⟩ := by simp [riD, HOK.out, hO, hN, hA]
 have HA2 := Lib.hid e2
 clear e2 hO hN hA
 obtain ⟨A2, hA2⟩ : ∃ A2, A2 = 1 - A := ⟨_, rfl⟩
 have hsub : IntKind.i64.wrap A2 = A2 := by rw [IntKind.wrap_i64]; omega
 have hsub2 : (1 : Int) - A = A2 := hA2.symm
 rw [← hA2] at HA2
 clear hA2 hat
 go_wp2_with fail
 rw [← HW4.out]
 clear CS3 LS3 KS3
 have hn1 : w.heap.size ∉ [w.heap.size + 1] := by simp
 have hn2 : w3.heap.size ∉ [w.heap.size + 1] := by simp; omega
 have ya0 : ∀ w', Upd w4 w' [w.heap.size + 1] → w'.cell? ⟨w.heap.size, 0, none⟩ = some (.slice a0 n0 k0) := fun w' hw => (KS4.upd hw hn1).cell 0
 have ya1 : ∀ w', Upd w4 w' [w.heap.size + 1] → w'.cell? ⟨w.heap.size, 1, none⟩ = some (.slice a1 L k1) := fun w' hw => (KS4.upd hw hn1).cell 1
 have yb0 : ∀ w', Upd w4 w' [w.heap.size + 1] → w'.cell? ⟨w3.heap.size, 0, none⟩ = some (.int .i64 N.Num) := fun w' hw => (KN4.upd hw hn2).cell 0
 have yb1 : ∀ w', Upd w4 w' [w.heap.size + 1] → w'.cell? ⟨w3.heap.size, 1, none⟩ = some (.int .i64 N.State.Index) := fun w' hw => (KN4.upd hw hn2).cell 1
 have yb2 : ∀ w', Upd w4 w' [w.heap.size + 1] → w'.cell? ⟨w3.heap.size, 2, none⟩ = some (.int .i64 N.State.Time) := fun w' hw => (KN4.upd hw hn2).cell 2
 have yb3 : ∀ w', Upd w4 w' [w.heap.size + 1] → w'.cell? ⟨w3.heap.size, 3, none⟩ = some (.slice c3 m3 j3) := fun w' hw => (KN4.upd hw hn2).cell 3
 have yb4 : ∀ w', Upd w4 w' [w.heap.size + 1] → w'.cell? ⟨w3.heap.size, 4, none⟩ = some (.slice c4 m4 j4) := fun w' hw => (KN4.upd hw hn2).cell 4
 have yb5 : ∀ w', Upd w4 w' [w.heap.size + 1] → w'.cell? ⟨w3.heap.size, 5, none⟩ = some (.int .i64 N.State.Lease.Holder) := fun w' hw => (KN4.upd hw hn2).cell 5
 have yb6 : ∀ w', Upd w4 w' [w.heap.size + 1] → w'.cell? ⟨w3.heap.size, 6, none⟩ = some (.int .i64 N.State.Lease.Epoch) := fun w' hw => (KN4.upd hw hn2).cell 6
 have yb7 : ∀ w', Upd w4 w' [w.heap.size + 1] → w'.cell? ⟨w3.heap.size, 7, none⟩ = some (.int .i64 N.State.Lease.Until) := fun w' hw => (KN4.upd hw hn2).cell 7
 clear hn1 hn2
 refine wp_region_held_drew (S := fun w' => Upd w4 w' [w.heap.size + 1]) (by kernel_rfl) (by (try dsimp only); exact ((Upd.refl w4 [w.heap.size + 1]).ext (Ext.drew (Ext.refl _)))) (fun hHeld => ?_)
 refine wt 0 ?_
 (try simp only [redA, Act.put])
 refine wt 1 ?_
 (try simp only [redA, Act.put])
 refine wt 2 ?_
 (try simp only [redA, Act.put])
 refine wt 3 ?_
 (try simp only [redA, Act.put])
 refine wt 5 ?_
 (try simp only [redA, Act.put])
 refine wt 6 ?_
 (try simp only [redA, Act.put])
 refine wt 7 ?_
 (try simp only [redA, Act.put])
 refine wt 8 ?_
 (try simp only [redA, Act.put])
 refine wt 9 ?_
 (try simp only [redA, Act.put])
 refine wt 10 ?_
 (try simp only [redA, Act.put])
 refine wt 11 ?_
 (try simp only [redA, Act.put])
 refine wr1 4 fun Kz hKz => ?_
 (try simp only [redA])
 go_simp
 (go_at_call 55; refine (wipedSlot_r (HDD.out.ext (E4.trans xT)) A2).mono ?_; rintro e9 wc ⟨_, rfl, hxc, gd⟩; obtain ⟨b0, m0, j0, b1, m1, j1, rfl⟩ := gd.shape; have hzc := hxc.size; have XC : Ext w4 wc := xT; have CRc := (KR4.ext XC).cell; have FRc := (KR4.ext XC).frozen; have LRc := (KR4.ext XC).lt)
 refine hKz.out _ _ (by (try dsimp only); exact (((Upd.refl w4 [w.heap.size + 1]).ext (Ext.drew (Ext.refl _))).ext hxc)) (fun hHeld => ?_)
 clear hKz Kz
 (try simp only [redA, Act.put])
 refine wr1 12 fun Kz hKz => ?_
 (try simp only [redA])
 go_simp
 refine hKz.out _ _ (by (try dsimp only); exact (((Upd.refl w4 [w.heap.size + 1]).ext (Ext.drew (Ext.refl _))).ext hxc)) (fun hHeld => ?_)
 clear hKz Kz
 (try simp only [redA, Act.put])
 refine wr1 13 fun Kz hKz => ?_
 (try simp only [redA])
 go_simp
 refine hKz.out _ _ (by (try dsimp only); exact (Upd.setCell (Upd.setCell (Upd.setCell (Upd.setCell (Upd.setCell (Upd.setCell (Upd.setCell (Upd.setCell (Upd.setCell (Upd.setCell (Upd.setCell (Upd.setCell (((Upd.refl w4 [w.heap.size + 1]).ext (Ext.drew (Ext.refl _))).ext hxc) (p := ⟨w.heap.size + 1, 0, none⟩) (List.mem_singleton.2 rfl) _) (p := ⟨w.heap.size + 1, 1, none⟩) (List.mem_singleton.2 rfl) _) (p := ⟨w.heap.size + 1, 2, none⟩) (List.mem_singleton.2 rfl) _) (p := ⟨w.heap.size + 1, 3, none⟩) (List.mem_singleton.2 rfl) _) (p := ⟨w.heap.size + 1, 4, none⟩) (List.mem_singleton.2 rfl) _) (p := ⟨w.heap.size + 1, 5, none⟩) (List.mem_singleton.2 rfl) _) (p := ⟨w.heap.size + 1, 6, none⟩) (List.mem_singleton.2 rfl) _) (p := ⟨w.heap.size + 1, 7, none⟩) (List.mem_singleton.2 rfl) _) (p := ⟨w.heap.size + 1, 8, none⟩) (List.mem_singleton.2 rfl) _) (p := ⟨w.heap.size + 1, 9, none⟩) (List.mem_singleton.2 rfl) _) (p := ⟨w.heap.size + 1, 10, none⟩) (List.mem_singleton.2 rfl) _) (p := ⟨w.heap.size + 1, 11, none⟩) (List.mem_singleton.2 rfl) _)) (fun hHeld => ?_)
 clear hKz Kz
 (try simp only [redA, Act.put])
 refine wr1 14 fun Kz hKz => ?_
 (try simp only [redA])
 go_simp
 refine hKz.out _ _ (by (try dsimp only); exact (Upd.setCell (Upd.setCell (Upd.setCell (Upd.setCell (Upd.setCell (Upd.setCell (Upd.setCell (Upd.setCell (Upd.setCell (Upd.setCell (Upd.setCell (Upd.setCell (((Upd.refl w4 [w.heap.size + 1]).ext (Ext.drew (Ext.refl _))).ext hxc) (p := ⟨w.heap.size + 1, 0, none⟩) (List.mem_singleton.2 rfl) _) (p := ⟨w.heap.size + 1, 1, none⟩) (List.mem_singleton.2 rfl) _) (p := ⟨w.heap.size + 1, 2, none⟩) (List.mem_singleton.2 rfl) _) (p := ⟨w.heap.size + 1, 3, none⟩) (List.mem_singleton.2 rfl) _) (p := ⟨w.heap.size + 1, 4, none⟩) (List.mem_singleton.2 rfl) _) (p := ⟨w.heap.size + 1, 5, none⟩) (List.mem_singleton.2 rfl) _) (p := ⟨w.heap.size + 1, 6, none⟩) (List.mem_singleton.2 rfl) _) (p := ⟨w.heap.size + 1, 7, none⟩) (List.mem_singleton.2 rfl) _) (p := ⟨w.heap.size + 1, 8, none⟩) (List.mem_singleton.2 rfl) _) (p := ⟨w.heap.size + 1, 9, none⟩) (List.mem_singleton.2 rfl) _) (p := ⟨w.heap.size + 1, 10, none⟩) (List.mem_singleton.2 rfl) _) (p := ⟨w.heap.size + 1, 11, none⟩) (List.mem_singleton.2 rfl) _)) (fun hHeld => ?_)
 clear hKz Kz
 (try simp only [redA, Act.put])
 refine wpAnyH_done (by kernel_rfl) ?_ _
 clear ya0 ya1 yb0 yb1 yb2 yb3 yb4 yb5 yb6 yb7
 go_wp2_with fail
 refine bodyPost_ret (by simp [results, Tryz.results24, go_sem, CRc, FRc, LRc]; try rfl) rfl ?_
 have E6 := E4.trans XC
 have hz5 := XC.size
 have hz6 : w4.drew.heap.size = w4.heap.size := size_drew _
 obtain ⟨u3, u4, e5, gp, gj, _⟩ := gs4
 injection e5 with e5
 injection e5 with e5
 injection e5 with _ e5
 injection e5 with _ e5
 injection e5 with _ e5
 injection e5 with e53 e5
 injection e5 with e54 e5
 subst e53; subst e54
 refine ⟨_, rfl, by (clear E1 E2 E4 hxc XC hx2 hx3 X4; exact xT), _, by (rw [HOK.out]; try rfl), ?_⟩
 rw [HA2.out]
 exact OwStore.of (IsDisk.mono (IsDisk.keep gd chgT) oM) ((OwnI.keep (Own.ext gp XC) chgT).mono oM) ((OwnI.keep (Own.ext gj XC) chgT).mono oM)
end Go.Proofs.YtlnkggpemdpemaaGreat
