/- Contracts and plain laws: Li. -/
import Derived.Test.YtlnkggpemdpemaaGreatYa
import Derived.Test.YtlnkggpemdpemaaGreatYl
set_option linter.unusedSimpArgs false
set_option linter.unusedVariables false
set_option maxHeartbeats 8000000
set_option maxRecDepth 100000
namespace Go.G8
open Go.RowKit
open Go.Proofs.YtlnkggpemdpemaaGreat
noncomputable def liesIn (s : DStore) : Bool := storeOk s && (!(decide (s.Busy = 0) && decide (0 < s.Disk.Wait.length)) && (if newOk ⟨s.Disk.Kept, []⟩ then decide ((newShot ⟨s.Disk.Kept, []⟩).Num = s.Num) && decide ((newShot ⟨s.Disk.Kept, []⟩).State.Index = s.Last) else decide (s.Num = 0)))
end Go.G8
namespace Go.Proofs.YtlnkggpemdpemaaGreat
open Go.RowKit Go.G8
theorem liesIn_k {w : World} {v : Value} {s : DStore} (h : RdStore w v s) : Calls Tryz.prog 13 #[v] w (RetV w (.bool (liesIn s))) := by
 have HS := Lib.hid h
 obtain ⟨a0, n0, k0, a1, k1, a4, n4, k4, a5, n5, k5, rfl, hwl⟩ := h.wait
 have HDD := Lib.hid h.disk.1
 clear h
 obtain ⟨W1, hW1⟩ : ∃ W1, W1 = w.alloc (.cells #[.slice a0 n0 k0, .slice a1 s.Disk.Wait.length k1, .int .i64 s.State.Index, .int .i64 s.State.Time, .slice a4 n4 k4, .slice a5 n5 k5, .int .i64 s.State.Lease.Holder, .int .i64 s.State.Lease.Epoch, .int .i64 s.State.Lease.Until, .int .i64 s.Num, .int .i64 s.Last, .int .i64 s.Busy] 41) := ⟨_, rfl⟩
 have E1 : Ext w W1 := by rw [hW1]; exact (Ext.refl _).alloc _
 have KS1 : Blk W1 w.heap.size 41 #[.slice a0 n0 k0, .slice a1 s.Disk.Wait.length k1, .int .i64 s.State.Index, .int .i64 s.State.Time, .slice a4 n4 k4, .slice a5 n5 k5, .int .i64 s.State.Lease.Holder, .int .i64 s.State.Lease.Epoch, .int .i64 s.State.Lease.Until, .int .i64 s.Num, .int .i64 s.Last, .int .i64 s.Busy] := by rw [hW1]; exact Blk.new _ _ _
 have HW1 := Lib.hid hW1
 clear hW1
 go_enter Tryz.func13, Tryz.ntmps13
 go_wp2_with fail
 rw [← HW1.out]
 have CS1 := KS1.cell; have LS1 := KS1.lt
 go_wp2_with fail
 refine (storeOk_r (HS.out.ext E1)).mono ?_
 rintro e9 w2 ⟨rfl, hx2⟩
 have E2 : Ext w w2 := E1.trans hx2
 have KS2 := KS1.ext hx2
 clear CS1 LS1
 have CS2 := KS2.cell; have LS2 := KS2.lt
 cases hso : storeOk s
 ·
  have e1 : liesIn s = false := by simp [liesIn, hso]
  have HE1 := Lib.hid e1
  clear e1
  go_wp2_with fail
  go_ret
  exact ⟨by (rw [HE1.out]; try rfl), E2⟩
 have HSO := Lib.hid hso
 have hdk : diskOk s.Disk = true := by
  simp only [storeOk, Bool.and_eq_true] at hso
  exact shelfOk_disk hso.1
 have HDK := Lib.hid hdk
 clear hso hdk
 cases hbw : (decide (s.Busy = 0) && decide (0 < s.Disk.Wait.length))
 rotate_left
 ·
  have e1 : liesIn s = false := by simp only [liesIn, hbw]; simp
  have HE1 := Lib.hid e1
  rw [Bool.and_eq_true] at hbw
  obtain ⟨hb1, hb2⟩ := hbw
  have hb3 : (s.Busy == 0) = true := by simpa using hb1
  clear e1 hb1
  go_wp2_with fail
  go_ret
  exact ⟨by (rw [HE1.out]; try rfl), E2⟩
 have e1 : liesIn s = (if newOk ⟨s.Disk.Kept, []⟩ then decide ((newShot ⟨s.Disk.Kept, []⟩).Num = s.Num) && decide ((newShot ⟨s.Disk.Kept, []⟩).State.Index = s.Last) else decide (s.Num = 0)) := by simp only [liesIn, HSO.out, hbw]; simp
 have HE1 := Lib.hid e1
 clear e1
 by_cases hb0 : s.Busy = 0
 all_goals
  first
  |
   have hb1 : (s.Busy == 0) = true := by simp [hb0]
   have hb2 : decide (0 < s.Disk.Wait.length) = false := by simpa [hb0] using hbw
  | have hb1 : (s.Busy == 0) = false := by simp [hb0]
  clear hb0 hbw
  go_wp2_with fail
  refine (fallen_r (HDD.out.ext E2) (Ints.nil 1 _)).mono ?_
  rintro e9 w3 ⟨_, rfl, hx3, gd⟩
  rw [fallen_none HDK.out] at gd
  obtain ⟨b0, m0, j0, b1, m1, j1, rfl⟩ := gd.rd.shape
  have E3 : Ext w w3 := E2.trans hx3
  have KS3 := KS2.ext hx3
  clear CS2 LS2
  have CS3 := KS3.cell; have LS3 := KS3.lt
  go_wp2_with fail
  refine (newestShot_k gd.rd).mono ?_
  rintro e9 w4 ⟨_, rfl, hx4, u, rfl, F9, gs⟩
  obtain ⟨N, hN⟩ : ∃ N, N = newShot ⟨s.Disk.Kept, []⟩ := ⟨_, rfl⟩
  obtain ⟨O, hO⟩ : ∃ O, O = newOk ⟨s.Disk.Kept, []⟩ := ⟨_, rfl⟩
  rw [← hN, ← hO] at HE1
  rw [← hO]
  rw [← hN] at gs
  have HNO : Hid (O = true → shotOk N = true) := Lib.hid (fun h => by rw [hN]; exact newShot_ok (by rw [← hO]; exact h))
  clear hN hO
  obtain ⟨c3, m3, j3, c4, m4, j4, rfl⟩ := gs.rd.shape
  have E4 : Ext w w4 := E3.trans hx4
  have KS4 := KS3.ext hx4
  clear CS3 LS3
  have CS4 := KS4.cell; have LS4 := KS4.lt
  cases hOk : O
  ·
   rw [hOk] at HE1
   by_cases q0 : s.Num = 0
   ·
    have z0 : (s.Num == 0) = true := (by simp [q0]); have d0 : decide (s.Num = 0) = true := (by simp [q0])
    clear q0
    have HE2 := Lib.hid (show liesIn s = true from by rw [HE1.out]; simp [d0])
    go_wp2_with fail
    go_ret
    exact ⟨by (rw [HE2.out]; try rfl), xT⟩
   have z0 : (s.Num == 0) = false := (by simp [q0]); have d0 : decide (s.Num = 0) = false := (by simp [q0])
   clear q0
   have HE2 := Lib.hid (show liesIn s = false from by rw [HE1.out]; simp [d0])
   go_wp2_with fail
   go_ret
   exact ⟨by (rw [HE2.out]; try rfl), xT⟩
  rw [hOk] at HE1
  by_cases q1 : N.Num = s.Num
  ·
   have z1 : (N.Num == s.Num) = true := (by simp [q1]); have d1 : decide (N.Num = s.Num) = true := (by simp [q1])
   clear q1
   by_cases q2 : N.State.Index = s.Last
   ·
    have z2 : (N.State.Index == s.Last) = true := (by simp [q2]); have d2 : decide (N.State.Index = s.Last) = true := (by simp [q2])
    clear q2
    have HE2 := Lib.hid (show liesIn s = true from by rw [HE1.out]; rw [d1, d2]; rfl)
    go_wp2_with fail
    go_ret
    exact ⟨by (rw [HE2.out]; try rfl), xT⟩
   have z2 : (N.State.Index == s.Last) = false := (by simp [q2]); have d2 : decide (N.State.Index = s.Last) = false := (by simp [q2])
   clear q2
   have HE2 := Lib.hid (show liesIn s = false from by rw [HE1.out]; rw [d1, d2]; rfl)
   go_wp2_with fail
   go_ret
   exact ⟨by (rw [HE2.out]; try rfl), xT⟩
  have z1 : (N.Num == s.Num) = false := (by simp [q1]); have d1 : decide (N.Num = s.Num) = false := (by simp [q1])
  clear q1
  have HE2 := Lib.hid (show liesIn s = false from by rw [HE1.out]; rw [d1]; rfl)
  go_wp2_with fail
  go_ret
  exact ⟨by (rw [HE2.out]; try rfl), xT⟩
theorem sLiesIn_k {w : World} {v : Value} {s : DStore} (h : RdStore w v s) : Calls Tryz.prog 14 #[v] w (RetV w (.bool (liesIn s))) := by
 have HS := Lib.hid h
 obtain ⟨a0, n0, k0, a1, k1, a4, n4, k4, a5, n5, k5, rfl, hwl⟩ := h.wait
 have HDD := Lib.hid h.disk.1
 clear h
 obtain ⟨W1, hW1⟩ : ∃ W1, W1 = w.alloc (.cells #[.slice a0 n0 k0, .slice a1 s.Disk.Wait.length k1, .int .i64 s.State.Index, .int .i64 s.State.Time, .slice a4 n4 k4, .slice a5 n5 k5, .int .i64 s.State.Lease.Holder, .int .i64 s.State.Lease.Epoch, .int .i64 s.State.Lease.Until, .int .i64 s.Num, .int .i64 s.Last, .int .i64 s.Busy] 41) := ⟨_, rfl⟩
 have E1 : Ext w W1 := by rw [hW1]; exact (Ext.refl _).alloc _
 have KS1 : Blk W1 w.heap.size 41 #[.slice a0 n0 k0, .slice a1 s.Disk.Wait.length k1, .int .i64 s.State.Index, .int .i64 s.State.Time, .slice a4 n4 k4, .slice a5 n5 k5, .int .i64 s.State.Lease.Holder, .int .i64 s.State.Lease.Epoch, .int .i64 s.State.Lease.Until, .int .i64 s.Num, .int .i64 s.Last, .int .i64 s.Busy] := by rw [hW1]; exact Blk.new _ _ _
 have HW1 := Lib.hid hW1
 clear hW1
 go_enter Tryz.func14, Tryz.ntmps14
 go_wp2_with fail
 rw [← HW1.out]
 have CS1 := KS1.cell; have LS1 := KS1.lt
 go_wp2_with fail
 refine (sStoreOk_r (HS.out.ext E1)).mono ?_
 rintro e9 w2 ⟨rfl, hx2⟩
 have E2 : Ext w w2 := E1.trans hx2
 have KS2 := KS1.ext hx2
 clear CS1 LS1
 have CS2 := KS2.cell; have LS2 := KS2.lt
 cases hso : storeOk s
 ·
  have e1 : liesIn s = false := by simp [liesIn, hso]
  have HE1 := Lib.hid e1
  clear e1
  go_wp2_with fail
  go_ret
  exact ⟨by (rw [HE1.out]; try rfl), E2⟩
 have HSO := Lib.hid hso
 have hdk : diskOk s.Disk = true := by
  simp only [storeOk, Bool.and_eq_true] at hso
  exact shelfOk_disk hso.1
 have HDK := Lib.hid hdk
 clear hso hdk
 cases hbw : (decide (s.Busy = 0) && decide (0 < s.Disk.Wait.length))
 rotate_left
 ·
  have e1 : liesIn s = false := by simp only [liesIn, hbw]; simp
  have HE1 := Lib.hid e1
  rw [Bool.and_eq_true] at hbw
  obtain ⟨hb1, hb2⟩ := hbw
  have hb3 : (s.Busy == 0) = true := by simpa using hb1
  clear e1 hb1
  go_wp2_with fail
  go_ret
  exact ⟨by (rw [HE1.out]; try rfl), E2⟩
 have e1 : liesIn s = (if newOk ⟨s.Disk.Kept, []⟩ then decide ((newShot ⟨s.Disk.Kept, []⟩).Num = s.Num) && decide ((newShot ⟨s.Disk.Kept, []⟩).State.Index = s.Last) else decide (s.Num = 0)) := by simp only [liesIn, HSO.out, hbw]; simp
 have HE1 := Lib.hid e1
 clear e1
 by_cases hb0 : s.Busy = 0
 all_goals
  first
  |
   have hb1 : (s.Busy == 0) = true := by simp [hb0]
   have hb2 : decide (0 < s.Disk.Wait.length) = false := by simpa [hb0] using hbw
  | have hb1 : (s.Busy == 0) = false := by simp [hb0]
  clear hb0 hbw
  go_wp2_with fail
  refine (l3Copy_r (HDD.out.ext E2) (diskOk_small HDK.out)).mono ?_
  rintro e9 w3 ⟨_, rfl, hx3, gd⟩
  obtain ⟨b0, m0, j0, b1, m1, j1, rfl⟩ := gd.rd.shape
  have gk : RdDisk w3 (.agg #[.slice b0 m0 j0, .slice none 0 0]) ⟨s.Disk.Kept, []⟩ := ⟨_, _, rfl, gd.rd.get.1, Nest.nil _ _⟩
  have E3 : Ext w w3 := E2.trans hx3
  have KS3 := KS2.ext hx3
  clear CS2 LS2
  have CS3 := KS3.cell; have LS3 := KS3.lt
  have hfl : ∀ w, (Instr.field 33 (.agg #[.slice b0 m0 j0, .slice b1 m1 j1]) 0).run Tryz.prog w = .ok (.slice b0 m0 j0) w := fun w => by rfl
  go_wp2_with fail
  clear hfl
  refine (sNewestShot_k gk).mono ?_
  rintro e9 w4 ⟨_, rfl, hx4, u, rfl, F9, gs⟩
  obtain ⟨N, hN⟩ : ∃ N, N = newShot ⟨s.Disk.Kept, []⟩ := ⟨_, rfl⟩
  obtain ⟨O, hO⟩ : ∃ O, O = newOk ⟨s.Disk.Kept, []⟩ := ⟨_, rfl⟩
  rw [← hN, ← hO] at HE1
  rw [← hO]
  rw [← hN] at gs
  have HNO : Hid (O = true → shotOk N = true) := Lib.hid (fun h => by rw [hN]; exact newShot_ok (by rw [← hO]; exact h))
  clear hN hO
  obtain ⟨c3, m3, j3, c4, m4, j4, rfl⟩ := gs.rd.shape
  have E4 : Ext w w4 := E3.trans hx4
  have KS4 := KS3.ext hx4
  clear CS3 LS3
  have CS4 := KS4.cell; have LS4 := KS4.lt
  by_cases q0 : s.Num = 0
  ·
   have z0 : (s.Num == 0) = true := (by simp [q0]); have d0 : decide (s.Num = 0) = true := (by simp [q0])
   cases hOk : O
   ·
    rw [hOk] at HE1
    clear q0
    have HE2 := Lib.hid (show liesIn s = true from by rw [HE1.out]; simp [d0])
    go_wp2_with fail
    go_ret
    exact ⟨by (rw [HE2.out]; try rfl), xT⟩
   rw [hOk] at HE1
   have d1 : decide (N.Num = s.Num) = false := by have := shotOk_num (HNO.out hOk); simp; omega
   clear q0
   have HE2 := Lib.hid (show liesIn s = false from by rw [HE1.out]; rw [d1]; rfl)
   go_wp2_with fail
   go_ret
   exact ⟨by (rw [HE2.out]; try rfl), xT⟩
  have z0 : (s.Num == 0) = false := (by simp [q0]); have d0 : decide (s.Num = 0) = false := (by simp [q0])
  clear q0
  cases hOk : O
  ·
   rw [hOk] at HE1
   have HE2 := Lib.hid (show liesIn s = false from by rw [HE1.out]; simp [d0])
   go_wp2_with fail
   go_ret
   exact ⟨by (rw [HE2.out]; try rfl), xT⟩
  rw [hOk] at HE1
  by_cases q1 : N.Num = s.Num
  ·
   have z1 : (N.Num == s.Num) = true := (by simp [q1]); have d1 : decide (N.Num = s.Num) = true := (by simp [q1])
   clear q1
   by_cases q2 : N.State.Index = s.Last
   ·
    have z2 : (N.State.Index == s.Last) = true := (by simp [q2]); have d2 : decide (N.State.Index = s.Last) = true := (by simp [q2])
    clear q2
    have HE2 := Lib.hid (show liesIn s = true from by rw [HE1.out]; rw [d1, d2]; rfl)
    go_wp2_with fail
    go_ret
    exact ⟨by (rw [HE2.out]; try rfl), xT⟩
   have z2 : (N.State.Index == s.Last) = false := (by simp [q2]); have d2 : decide (N.State.Index = s.Last) = false := (by simp [q2])
   clear q2
   have HE2 := Lib.hid (show liesIn s = false from by rw [HE1.out]; rw [d1, d2]; rfl)
   go_wp2_with fail
   go_ret
   exact ⟨by (rw [HE2.out]; try rfl), xT⟩
  have z1 : (N.Num == s.Num) = false := (by simp [q1]); have d1 : decide (N.Num = s.Num) = false := (by simp [q1])
  clear q1
  have HE2 := Lib.hid (show liesIn s = false from by rw [HE1.out]; rw [d1]; rfl)
  go_wp2_with fail
  go_ret
  exact ⟨by (rw [HE2.out]; try rfl), xT⟩
end Go.Proofs.YtlnkggpemdpemaaGreat
