/- The statement FnExactLiesIn: the walk and the row. -/
import Derived.Test.YthdiaijiokoifaaGreatGl
import Derived.Test.YthdiaijiokoifaaGreatGc
-- LiesIn of both.
set_option linter.unusedSimpArgs false
set_option linter.unusedVariables false
namespace Go.Proofs.YthdiaijiokoifaaGreat
open Go.RowKit Go.G8

end Go.Proofs.YthdiaijiokoifaaGreat
namespace Go.G8
open Go.RowKit
open Go.Proofs.YthdiaijiokoifaaGreat
/-- What LiesIn says. -/
noncomputable def liesIn (s : DStore) : Bool := storeOk s && (!(decide (s.Busy = 0) && decide (0 < s.Disk.Wait.length)) && (if newOk ⟨s.Disk.Kept, []⟩ then decide ((newShot ⟨s.Disk.Kept, []⟩).Num = s.Num) && decide ((newShot ⟨s.Disk.Kept, []⟩).State.Index = s.Last) else decide (s.Num = 0)))
end Go.G8
namespace Go.Proofs.YthdiaijiokoifaaGreat
open Go.RowKit Go.G8
set_option maxHeartbeats 4000000 in
set_option maxRecDepth 100000 in
theorem liesIn_k {w : World} {v : Value} {s : DStore} (h : RdStore w v s) : Calls Tryz.prog 22 #[v] w (RetV w (.bool (liesIn s))) := by
  have HS := Lib.hid h
  obtain ⟨a0, n0, k0, a1, k1, a4, n4, k4, a5, n5, k5, rfl, hwl⟩ := h.wait
  have HDD := Lib.hid h.disk.1
  clear h
  obtain ⟨W1, hW1⟩ : ∃ W1, W1 = w.alloc (.cells #[.slice a0 n0 k0, .slice a1 s.Disk.Wait.length k1, .int .i64 s.State.Index, .int .i64 s.State.Time, .slice a4 n4 k4, .slice a5 n5 k5, .int .i64 s.State.Lease.Holder, .int .i64 s.State.Lease.Epoch, .int .i64 s.State.Lease.Until, .int .i64 s.Num, .int .i64 s.Last, .int .i64 s.Busy] 58) := ⟨_, rfl⟩
  have E1 : Ext w W1 := by rw [hW1]; exact (Ext.refl _).alloc _
  have KS1 : Blk W1 w.heap.size 58 #[.slice a0 n0 k0, .slice a1 s.Disk.Wait.length k1, .int .i64 s.State.Index, .int .i64 s.State.Time, .slice a4 n4 k4, .slice a5 n5 k5, .int .i64 s.State.Lease.Holder, .int .i64 s.State.Lease.Epoch, .int .i64 s.State.Lease.Until, .int .i64 s.Num, .int .i64 s.Last, .int .i64 s.Busy] := by rw [hW1]; exact Blk.new _ _ _
  have HW1 := Lib.hid hW1
  clear hW1
  go_enter Tryz.func22, Tryz.ntmps22
  go_wp2_with fail
  rw [← HW1.out]
  have CS1 := KS1.cell; have LS1 := KS1.lt
  go_wp2_with fail
  refine (storeOk_r (HS.out.ext E1)).mono ?_
  rintro e9 w2 ⟨rfl, hx2⟩
  have E2 : Ext w w2 := E1.trans hx2
  have KS2 := KS1.ext hx2
  clear CS1 LS1
  have CS2 := KS2.cell; have LS2 := KS2.lt
  cases hso : storeOk s
  · have e1 : liesIn s = false := by simp [liesIn, hso]
    have HE1 := Lib.hid e1
    clear e1
    go_wp2_with fail
    go_ret
    exact ⟨by (rw [HE1.out]; try rfl), E2⟩
  have HSO := Lib.hid hso
  have hdk : diskOk s.Disk = true := by
    simp only [storeOk, Bool.and_eq_true] at hso
    exact shelfOk_disk hso.1
  have HDK := Lib.hid hdk
  clear hso hdk
  cases hbw : (decide (s.Busy = 0) && decide (0 < s.Disk.Wait.length))
  rotate_left
  · have e1 : liesIn s = false := by simp only [liesIn, hbw]; simp
    have HE1 := Lib.hid e1
    rw [Bool.and_eq_true] at hbw
    obtain ⟨hb1, hb2⟩ := hbw
    have hb3 : (s.Busy == 0) = true := by simpa using hb1
    clear e1 hb1
    go_wp2_with fail
    go_ret
    exact ⟨by (rw [HE1.out]; try rfl), E2⟩
  have e1 : liesIn s = (if newOk ⟨s.Disk.Kept, []⟩ then decide ((newShot ⟨s.Disk.Kept, []⟩).Num = s.Num) && decide ((newShot ⟨s.Disk.Kept, []⟩).State.Index = s.Last) else decide (s.Num = 0)) := by simp only [liesIn, HSO.out, hbw]; simp
  have HE1 := Lib.hid e1
  clear e1
  by_cases hb0 : s.Busy = 0
  all_goals
    first
    | have hb1 : (s.Busy == 0) = true := by simp [hb0]
      have hb2 : decide (0 < s.Disk.Wait.length) = false := by simpa [hb0] using hbw
    | have hb1 : (s.Busy == 0) = false := by simp [hb0]
    clear hb0 hbw
    go_wp2_with fail
    refine (fallen_r (HDD.out.ext E2) (Ints.nil 1 _)).mono ?_
    rintro e9 w3 ⟨_, rfl, hx3, gd⟩
    rw [fallen_none HDK.out] at gd
    obtain ⟨b0, m0, j0, b1, m1, j1, rfl⟩ := gd.rd.shape
    have E3 : Ext w w3 := E2.trans hx3
    have KS3 := KS2.ext hx3
    clear CS2 LS2
    have CS3 := KS3.cell; have LS3 := KS3.lt
    go_wp2_with fail
    refine (newestShot_k gd.rd).mono ?_
    rintro e9 w4 ⟨_, rfl, hx4, u, rfl, F9, gs⟩
    obtain ⟨N, hN⟩ : ∃ N, N = newShot ⟨s.Disk.Kept, []⟩ := ⟨_, rfl⟩
    obtain ⟨O, hO⟩ : ∃ O, O = newOk ⟨s.Disk.Kept, []⟩ := ⟨_, rfl⟩
    rw [← hN, ← hO] at HE1
    rw [← hO]
    rw [← hN] at gs
    have HNO : Hid (O = true → shotOk N = true) := Lib.hid (fun h => by rw [hN]; exact newShot_ok (by rw [← hO]; exact h))
    clear hN hO
    obtain ⟨c3, m3, j3, c4, m4, j4, rfl⟩ := gs.rd.shape
    have E4 : Ext w w4 := E3.trans hx4
    have KS4 := KS3.ext hx4
    clear CS3 LS3
    have CS4 := KS4.cell; have LS4 := KS4.lt
    cases hOk : O
    · rw [hOk] at HE1
      by_cases q0 : s.Num = 0
      · have z0 : (s.Num == 0) = true := (by simp [q0]); have d0 : decide (s.Num = 0) = true := (by simp [q0])
        clear q0
        have HE2 := Lib.hid (show liesIn s = true from by rw [HE1.out]; simp [d0])
        go_wp2_with fail
        go_ret
        exact ⟨by (rw [HE2.out]; try rfl), by repeat' (first | (with_reducible exact Ext.refl _) | (with_reducible assumption) | (with_reducible refine Ext.drewN ?_ _) | (with_reducible refine Ext.drew ?_) | (with_reducible refine Ext.alloc ?_ _) | (with_reducible refine Ext.setCell ?_ ?_ _) | (with_reducible refine Ext.setRow ?_ ?_ _) | (with_reducible exact Nat.le_refl _) | (with_reducible refine Ext.trans ?_ (by assumption)) | omega)⟩

      · have z0 : (s.Num == 0) = false := (by simp [q0]); have d0 : decide (s.Num = 0) = false := (by simp [q0])
        clear q0
        have HE2 := Lib.hid (show liesIn s = false from by rw [HE1.out]; simp [d0])
        go_wp2_with fail
        go_ret
        exact ⟨by (rw [HE2.out]; try rfl), by repeat' (first | (with_reducible exact Ext.refl _) | (with_reducible assumption) | (with_reducible refine Ext.drewN ?_ _) | (with_reducible refine Ext.drew ?_) | (with_reducible refine Ext.alloc ?_ _) | (with_reducible refine Ext.setCell ?_ ?_ _) | (with_reducible refine Ext.setRow ?_ ?_ _) | (with_reducible exact Nat.le_refl _) | (with_reducible refine Ext.trans ?_ (by assumption)) | omega)⟩

    · rw [hOk] at HE1
      by_cases q1 : N.Num = s.Num
      · have z1 : (N.Num == s.Num) = true := (by simp [q1]); have d1 : decide (N.Num = s.Num) = true := (by simp [q1])
        clear q1
        by_cases q2 : N.State.Index = s.Last
        · have z2 : (N.State.Index == s.Last) = true := (by simp [q2]); have d2 : decide (N.State.Index = s.Last) = true := (by simp [q2])
          clear q2
          have HE2 := Lib.hid (show liesIn s = true from by rw [HE1.out]; rw [d1, d2]; rfl)
          go_wp2_with fail
          go_ret
          exact ⟨by (rw [HE2.out]; try rfl), by repeat' (first | (with_reducible exact Ext.refl _) | (with_reducible assumption) | (with_reducible refine Ext.drewN ?_ _) | (with_reducible refine Ext.drew ?_) | (with_reducible refine Ext.alloc ?_ _) | (with_reducible refine Ext.setCell ?_ ?_ _) | (with_reducible refine Ext.setRow ?_ ?_ _) | (with_reducible exact Nat.le_refl _) | (with_reducible refine Ext.trans ?_ (by assumption)) | omega)⟩

        · have z2 : (N.State.Index == s.Last) = false := (by simp [q2]); have d2 : decide (N.State.Index = s.Last) = false := (by simp [q2])
          clear q2
          have HE2 := Lib.hid (show liesIn s = false from by rw [HE1.out]; rw [d1, d2]; rfl)
          go_wp2_with fail
          go_ret
          exact ⟨by (rw [HE2.out]; try rfl), by repeat' (first | (with_reducible exact Ext.refl _) | (with_reducible assumption) | (with_reducible refine Ext.drewN ?_ _) | (with_reducible refine Ext.drew ?_) | (with_reducible refine Ext.alloc ?_ _) | (with_reducible refine Ext.setCell ?_ ?_ _) | (with_reducible refine Ext.setRow ?_ ?_ _) | (with_reducible exact Nat.le_refl _) | (with_reducible refine Ext.trans ?_ (by assumption)) | omega)⟩

      · have z1 : (N.Num == s.Num) = false := (by simp [q1]); have d1 : decide (N.Num = s.Num) = false := (by simp [q1])
        clear q1
        have HE2 := Lib.hid (show liesIn s = false from by rw [HE1.out]; rw [d1]; rfl)
        go_wp2_with fail
        go_ret
        exact ⟨by (rw [HE2.out]; try rfl), by repeat' (first | (with_reducible exact Ext.refl _) | (with_reducible assumption) | (with_reducible refine Ext.drewN ?_ _) | (with_reducible refine Ext.drew ?_) | (with_reducible refine Ext.alloc ?_ _) | (with_reducible refine Ext.setCell ?_ ?_ _) | (with_reducible refine Ext.setRow ?_ ?_ _) | (with_reducible exact Nat.le_refl _) | (with_reducible refine Ext.trans ?_ (by assumption)) | omega)⟩
set_option maxHeartbeats 4000000 in
set_option maxRecDepth 100000 in
theorem sLiesIn_k {w : World} {v : Value} {s : DStore} (h : RdStore w v s) : Calls Tryz.prog 20 #[v] w (RetV w (.bool (liesIn s))) := by
  have HS := Lib.hid h
  obtain ⟨a0, n0, k0, a1, k1, a4, n4, k4, a5, n5, k5, rfl, hwl⟩ := h.wait
  have HDD := Lib.hid h.disk.1
  clear h
  obtain ⟨W1, hW1⟩ : ∃ W1, W1 = w.alloc (.cells #[.slice a0 n0 k0, .slice a1 s.Disk.Wait.length k1, .int .i64 s.State.Index, .int .i64 s.State.Time, .slice a4 n4 k4, .slice a5 n5 k5, .int .i64 s.State.Lease.Holder, .int .i64 s.State.Lease.Epoch, .int .i64 s.State.Lease.Until, .int .i64 s.Num, .int .i64 s.Last, .int .i64 s.Busy] 58) := ⟨_, rfl⟩
  have E1 : Ext w W1 := by rw [hW1]; exact (Ext.refl _).alloc _
  have KS1 : Blk W1 w.heap.size 58 #[.slice a0 n0 k0, .slice a1 s.Disk.Wait.length k1, .int .i64 s.State.Index, .int .i64 s.State.Time, .slice a4 n4 k4, .slice a5 n5 k5, .int .i64 s.State.Lease.Holder, .int .i64 s.State.Lease.Epoch, .int .i64 s.State.Lease.Until, .int .i64 s.Num, .int .i64 s.Last, .int .i64 s.Busy] := by rw [hW1]; exact Blk.new _ _ _
  have HW1 := Lib.hid hW1
  clear hW1
  go_enter Tryz.func20, Tryz.ntmps20
  go_wp2_with fail
  rw [← HW1.out]
  have CS1 := KS1.cell; have LS1 := KS1.lt
  go_wp2_with fail
  refine (sStoreOk_r (HS.out.ext E1)).mono ?_
  rintro e9 w2 ⟨rfl, hx2⟩
  have E2 : Ext w w2 := E1.trans hx2
  have KS2 := KS1.ext hx2
  clear CS1 LS1
  have CS2 := KS2.cell; have LS2 := KS2.lt
  cases hso : storeOk s
  · have e1 : liesIn s = false := by simp [liesIn, hso]
    have HE1 := Lib.hid e1
    clear e1
    go_wp2_with fail
    go_ret
    exact ⟨by (rw [HE1.out]; try rfl), E2⟩
  have HSO := Lib.hid hso
  have hdk : diskOk s.Disk = true := by
    simp only [storeOk, Bool.and_eq_true] at hso
    exact shelfOk_disk hso.1
  have HDK := Lib.hid hdk
  clear hso hdk
  cases hbw : (decide (s.Busy = 0) && decide (0 < s.Disk.Wait.length))
  rotate_left
  · have e1 : liesIn s = false := by simp only [liesIn, hbw]; simp
    have HE1 := Lib.hid e1
    rw [Bool.and_eq_true] at hbw
    obtain ⟨hb1, hb2⟩ := hbw
    have hb3 : (s.Busy == 0) = true := by simpa using hb1
    clear e1 hb1
    go_wp2_with fail
    go_ret
    exact ⟨by (rw [HE1.out]; try rfl), E2⟩
  have e1 : liesIn s = (if newOk ⟨s.Disk.Kept, []⟩ then decide ((newShot ⟨s.Disk.Kept, []⟩).Num = s.Num) && decide ((newShot ⟨s.Disk.Kept, []⟩).State.Index = s.Last) else decide (s.Num = 0)) := by simp only [liesIn, HSO.out, hbw]; simp
  have HE1 := Lib.hid e1
  clear e1
  by_cases hb0 : s.Busy = 0
  all_goals
    first
    | have hb1 : (s.Busy == 0) = true := by simp [hb0]
      have hb2 : decide (0 < s.Disk.Wait.length) = false := by simpa [hb0] using hbw
    | have hb1 : (s.Busy == 0) = false := by simp [hb0]
    clear hb0 hbw
    go_wp2_with fail
    refine (l3Copy_r (HDD.out.ext E2) (diskOk_small HDK.out)).mono ?_
    rintro e9 w3 ⟨_, rfl, hx3, gd⟩
    obtain ⟨b0, m0, j0, b1, m1, j1, rfl⟩ := gd.rd.shape
    have gk : RdDisk w3 (.agg #[.slice b0 m0 j0, .slice none 0 0]) ⟨s.Disk.Kept, []⟩ := ⟨_, _, rfl, gd.rd.get.1, Nest.nil _ _⟩
    have E3 : Ext w w3 := E2.trans hx3
    have KS3 := KS2.ext hx3
    clear CS2 LS2
    have CS3 := KS3.cell; have LS3 := KS3.lt
    have hfl : ∀ w, (Instr.field 56 (.agg #[.slice b0 m0 j0, .slice b1 m1 j1]) 0).run Tryz.prog w = .ok (.slice b0 m0 j0) w := fun w => by rfl
    go_wp2_with fail
    clear hfl
    refine (sNewestShot_k gk).mono ?_
    rintro e9 w4 ⟨_, rfl, hx4, u, rfl, F9, gs⟩
    obtain ⟨N, hN⟩ : ∃ N, N = newShot ⟨s.Disk.Kept, []⟩ := ⟨_, rfl⟩
    obtain ⟨O, hO⟩ : ∃ O, O = newOk ⟨s.Disk.Kept, []⟩ := ⟨_, rfl⟩
    rw [← hN, ← hO] at HE1
    rw [← hO]
    rw [← hN] at gs
    have HNO : Hid (O = true → shotOk N = true) := Lib.hid (fun h => by rw [hN]; exact newShot_ok (by rw [← hO]; exact h))
    clear hN hO
    obtain ⟨c3, m3, j3, c4, m4, j4, rfl⟩ := gs.rd.shape
    have E4 : Ext w w4 := E3.trans hx4
    have KS4 := KS3.ext hx4
    clear CS3 LS3
    have CS4 := KS4.cell; have LS4 := KS4.lt
    by_cases q0 : s.Num = 0
    · have z0 : (s.Num == 0) = true := (by simp [q0]); have d0 : decide (s.Num = 0) = true := (by simp [q0])
      cases hOk : O
      · rw [hOk] at HE1
        clear q0
        have HE2 := Lib.hid (show liesIn s = true from by rw [HE1.out]; simp [d0])
        go_wp2_with fail
        go_ret
        exact ⟨by (rw [HE2.out]; try rfl), by repeat' (first | (with_reducible exact Ext.refl _) | (with_reducible assumption) | (with_reducible refine Ext.drewN ?_ _) | (with_reducible refine Ext.drew ?_) | (with_reducible refine Ext.alloc ?_ _) | (with_reducible refine Ext.setCell ?_ ?_ _) | (with_reducible refine Ext.setRow ?_ ?_ _) | (with_reducible exact Nat.le_refl _) | (with_reducible refine Ext.trans ?_ (by assumption)) | omega)⟩

      · rw [hOk] at HE1
        have d1 : decide (N.Num = s.Num) = false := by have := shotOk_num (HNO.out hOk); simp; omega
        clear q0
        have HE2 := Lib.hid (show liesIn s = false from by rw [HE1.out]; rw [d1]; rfl)
        go_wp2_with fail
        go_ret
        exact ⟨by (rw [HE2.out]; try rfl), by repeat' (first | (with_reducible exact Ext.refl _) | (with_reducible assumption) | (with_reducible refine Ext.drewN ?_ _) | (with_reducible refine Ext.drew ?_) | (with_reducible refine Ext.alloc ?_ _) | (with_reducible refine Ext.setCell ?_ ?_ _) | (with_reducible refine Ext.setRow ?_ ?_ _) | (with_reducible exact Nat.le_refl _) | (with_reducible refine Ext.trans ?_ (by assumption)) | omega)⟩

    · have z0 : (s.Num == 0) = false := (by simp [q0]); have d0 : decide (s.Num = 0) = false := (by simp [q0])
      clear q0
      cases hOk : O
      · rw [hOk] at HE1
        have HE2 := Lib.hid (show liesIn s = false from by rw [HE1.out]; simp [d0])
        go_wp2_with fail
        go_ret
        exact ⟨by (rw [HE2.out]; try rfl), by repeat' (first | (with_reducible exact Ext.refl _) | (with_reducible assumption) | (with_reducible refine Ext.drewN ?_ _) | (with_reducible refine Ext.drew ?_) | (with_reducible refine Ext.alloc ?_ _) | (with_reducible refine Ext.setCell ?_ ?_ _) | (with_reducible refine Ext.setRow ?_ ?_ _) | (with_reducible exact Nat.le_refl _) | (with_reducible refine Ext.trans ?_ (by assumption)) | omega)⟩

      · rw [hOk] at HE1
        by_cases q1 : N.Num = s.Num
        · have z1 : (N.Num == s.Num) = true := (by simp [q1]); have d1 : decide (N.Num = s.Num) = true := (by simp [q1])
          clear q1
          by_cases q2 : N.State.Index = s.Last
          · have z2 : (N.State.Index == s.Last) = true := (by simp [q2]); have d2 : decide (N.State.Index = s.Last) = true := (by simp [q2])
            clear q2
            have HE2 := Lib.hid (show liesIn s = true from by rw [HE1.out]; rw [d1, d2]; rfl)
            go_wp2_with fail
            go_ret
            exact ⟨by (rw [HE2.out]; try rfl), by repeat' (first | (with_reducible exact Ext.refl _) | (with_reducible assumption) | (with_reducible refine Ext.drewN ?_ _) | (with_reducible refine Ext.drew ?_) | (with_reducible refine Ext.alloc ?_ _) | (with_reducible refine Ext.setCell ?_ ?_ _) | (with_reducible refine Ext.setRow ?_ ?_ _) | (with_reducible exact Nat.le_refl _) | (with_reducible refine Ext.trans ?_ (by assumption)) | omega)⟩

          · have z2 : (N.State.Index == s.Last) = false := (by simp [q2]); have d2 : decide (N.State.Index = s.Last) = false := (by simp [q2])
            clear q2
            have HE2 := Lib.hid (show liesIn s = false from by rw [HE1.out]; rw [d1, d2]; rfl)
            go_wp2_with fail
            go_ret
            exact ⟨by (rw [HE2.out]; try rfl), by repeat' (first | (with_reducible exact Ext.refl _) | (with_reducible assumption) | (with_reducible refine Ext.drewN ?_ _) | (with_reducible refine Ext.drew ?_) | (with_reducible refine Ext.alloc ?_ _) | (with_reducible refine Ext.setCell ?_ ?_ _) | (with_reducible refine Ext.setRow ?_ ?_ _) | (with_reducible exact Nat.le_refl _) | (with_reducible refine Ext.trans ?_ (by assumption)) | omega)⟩

        · have z1 : (N.Num == s.Num) = false := (by simp [q1]); have d1 : decide (N.Num = s.Num) = false := (by simp [q1])
          clear q1
          have HE2 := Lib.hid (show liesIn s = false from by rw [HE1.out]; rw [d1]; rfl)
          go_wp2_with fail
          go_ret
          exact ⟨by (rw [HE2.out]; try rfl), by repeat' (first | (with_reducible exact Ext.refl _) | (with_reducible assumption) | (with_reducible refine Ext.drewN ?_ _) | (with_reducible refine Ext.drew ?_) | (with_reducible refine Ext.alloc ?_ _) | (with_reducible refine Ext.setCell ?_ ?_ _) | (with_reducible refine Ext.setRow ?_ ?_ _) | (with_reducible exact Nat.le_refl _) | (with_reducible refine Ext.trans ?_ (by assumption)) | omega)⟩

end Go.Proofs.YthdiaijiokoifaaGreat

-- LiesIn leaf by leaf.
set_option linter.unusedSimpArgs false
set_option linter.unusedVariables false
namespace Go.Proofs.YthdiaijiokoifaaGreat
open Go.RowKit Go.G8

theorem sLiesIn_c (w : World) (s0_0 : Value) (l0_0 : List (List Int)) (s0_1 : Value) (l0_1 : List DWrite) (c0_2 : Int) (c0_3 : Int) (s0_4 : Value) (l0_4 : List DPair) (s0_5 : Value) (l0_5 : List DJob) (c0_6 : Int) (c0_7 : Int) (c0_8 : Int) (c0_9 : Int) (c0_10 : Int) (c0_11 : Int) (h0_0 : Nest 0 w s0_0 (nestInt64S l0_0)) (h0_1 : Nest 1 w s0_1 (nestWrite l0_1)) (h0_4 : Ints 2 w s0_4 (flPair l0_4)) (h0_5 : Ints 5 w s0_5 (flJob l0_5)) :
    Calls Tryz.prog 20 #[.agg #[s0_0, s0_1, .int .i64 c0_2, .int .i64 c0_3, s0_4, s0_5, .int .i64 c0_6, .int .i64 c0_7, .int .i64 c0_8, .int .i64 c0_9, .int .i64 c0_10, .int .i64 c0_11]] w (RetV w (.bool (liesIn (⟨⟨l0_0, l0_1⟩, ⟨c0_2, c0_3, l0_4, l0_5, ⟨c0_6, c0_7, c0_8⟩⟩, c0_9, c0_10, c0_11⟩ : DStore)))) := by
  exact sLiesIn_k (s := ⟨⟨l0_0, l0_1⟩, ⟨c0_2, c0_3, l0_4, l0_5, ⟨c0_6, c0_7, c0_8⟩⟩, c0_9, c0_10, c0_11⟩) ⟨_, _, _, _, rfl, h0_0, h0_1, h0_4, h0_5⟩
theorem liesIn_c (w : World) (s0_0 : Value) (l0_0 : List (List Int)) (s0_1 : Value) (l0_1 : List DWrite) (c0_2 : Int) (c0_3 : Int) (s0_4 : Value) (l0_4 : List DPair) (s0_5 : Value) (l0_5 : List DJob) (c0_6 : Int) (c0_7 : Int) (c0_8 : Int) (c0_9 : Int) (c0_10 : Int) (c0_11 : Int) (h0_0 : Nest 0 w s0_0 (nestInt64S l0_0)) (h0_1 : Nest 1 w s0_1 (nestWrite l0_1)) (h0_4 : Ints 2 w s0_4 (flPair l0_4)) (h0_5 : Ints 5 w s0_5 (flJob l0_5)) :
    Calls Tryz.prog 22 #[.agg #[s0_0, s0_1, .int .i64 c0_2, .int .i64 c0_3, s0_4, s0_5, .int .i64 c0_6, .int .i64 c0_7, .int .i64 c0_8, .int .i64 c0_9, .int .i64 c0_10, .int .i64 c0_11]] w (RetV w (.bool (liesIn (⟨⟨l0_0, l0_1⟩, ⟨c0_2, c0_3, l0_4, l0_5, ⟨c0_6, c0_7, c0_8⟩⟩, c0_9, c0_10, c0_11⟩ : DStore)))) := by
  exact liesIn_k (s := ⟨⟨l0_0, l0_1⟩, ⟨c0_2, c0_3, l0_4, l0_5, ⟨c0_6, c0_7, c0_8⟩⟩, c0_9, c0_10, c0_11⟩) ⟨_, _, _, _, rfl, h0_0, h0_1, h0_4, h0_5⟩

end Go.Proofs.YthdiaijiokoifaaGreat

-- The statement's walk: FnExactLiesIn.
namespace Go.Proofs.YthdiaijiokoifaaGreat
open Go.RowKit Go.G8

set_option maxHeartbeats 4000000 in
set_option maxRecDepth 100000 in
theorem law_LiesIn (w : World) (s0_0 : Value) (l0_0 : List (List Int)) (s0_1 : Value) (l0_1 : List DWrite) (c0_2 : Int) (c0_3 : Int) (s0_4 : Value) (l0_4 : List DPair) (s0_5 : Value) (l0_5 : List DJob) (c0_6 : Int) (c0_7 : Int) (c0_8 : Int) (c0_9 : Int) (c0_10 : Int) (c0_11 : Int) (h0_0 : Nest 0 w s0_0 (nestInt64S l0_0)) (h0_1 : Nest 1 w s0_1 (nestWrite l0_1)) (h0_4 : Ints 2 w s0_4 (flPair l0_4)) (h0_5 : Ints 5 w s0_5 (flJob l0_5)) : Calls Tryz.prog 4 #[.agg #[s0_0, s0_1, .int .i64 c0_2, .int .i64 c0_3, s0_4, s0_5, .int .i64 c0_6, .int .i64 c0_7, .int .i64 c0_8, .int .i64 c0_9, .int .i64 c0_10, .int .i64 c0_11]] w (RetV w (.bool true)) := by
  obtain ⟨a0_0, n0_0, k0_0, rfl⟩ := h0_0.shape
  obtain ⟨a0_1, n0_1, k0_1, rfl⟩ := h0_1.shape
  obtain ⟨a0_4, n0_4, k0_4, rfl⟩ := h0_4.shape
  obtain ⟨a0_5, n0_5, k0_5, rfl⟩ := h0_5.shape
  go_enter Tryz.func4, Tryz.ntmps4
  go_wp2_with fail
  refine (szStore_c _ _ _ _ _ _ _ _ _ _ (length_flPair _) _ _ _ (length_flJob _) _ _ _ _ _ _ _ (h0_0.ext (by repeat' (first | (with_reducible exact Ext.refl _) | (with_reducible assumption) | (with_reducible refine Ext.drewN ?_ _) | (with_reducible refine Ext.drew ?_) | (with_reducible refine Ext.alloc ?_ _) | (with_reducible refine Ext.setCell ?_ ?_ _) | (with_reducible refine Ext.setRow ?_ ?_ _) | (with_reducible exact Nat.le_refl _) | (with_reducible refine Ext.trans ?_ (by assumption)) | omega))) (h0_1.ext (by repeat' (first | (with_reducible exact Ext.refl _) | (with_reducible assumption) | (with_reducible refine Ext.drewN ?_ _) | (with_reducible refine Ext.drew ?_) | (with_reducible refine Ext.alloc ?_ _) | (with_reducible refine Ext.setCell ?_ ?_ _) | (with_reducible refine Ext.setRow ?_ ?_ _) | (with_reducible exact Nat.le_refl _) | (with_reducible refine Ext.trans ?_ (by assumption)) | omega))) (h0_4.ext (by repeat' (first | (with_reducible exact Ext.refl _) | (with_reducible assumption) | (with_reducible refine Ext.drewN ?_ _) | (with_reducible refine Ext.drew ?_) | (with_reducible refine Ext.alloc ?_ _) | (with_reducible refine Ext.setCell ?_ ?_ _) | (with_reducible refine Ext.setRow ?_ ?_ _) | (with_reducible exact Nat.le_refl _) | (with_reducible refine Ext.trans ?_ (by assumption)) | omega))) (h0_5.ext (by repeat' (first | (with_reducible exact Ext.refl _) | (with_reducible assumption) | (with_reducible refine Ext.drewN ?_ _) | (with_reducible refine Ext.drew ?_) | (with_reducible refine Ext.alloc ?_ _) | (with_reducible refine Ext.setCell ?_ ?_ _) | (with_reducible refine Ext.setRow ?_ ?_ _) | (with_reducible exact Nat.le_refl _) | (with_reducible refine Ext.trans ?_ (by assumption)) | omega))) (by omega) (by omega)).mono ?_
  rintro e w1 ⟨v1, rfl, hx1, hv1⟩
  have X1 : Ext w w1 := by repeat' (first | (with_reducible exact Ext.refl _) | (with_reducible assumption) | (with_reducible refine Ext.drewN ?_ _) | (with_reducible refine Ext.drew ?_) | (with_reducible refine Ext.alloc ?_ _) | (with_reducible refine Ext.setCell ?_ ?_ _) | (with_reducible refine Ext.setRow ?_ ?_ _) | (with_reducible exact Nat.le_refl _) | (with_reducible refine Ext.trans ?_ (by assumption)) | omega)
  have Ba0 : Blk w1 w.heap.size 51 #[.slice a0_0 n0_0 k0_0, .slice a0_1 n0_1 k0_1, .int .i64 c0_2, .int .i64 c0_3, .slice a0_4 n0_4 k0_4, .slice a0_5 n0_5 k0_5, .int .i64 c0_6, .int .i64 c0_7, .int .i64 c0_8, .int .i64 c0_9, .int .i64 c0_10, .int .i64 c0_11] := (Blk.new w 51 #[.slice a0_0 n0_0 k0_0, .slice a0_1 n0_1 k0_1, .int .i64 c0_2, .int .i64 c0_3, .slice a0_4 n0_4 k0_4, .slice a0_5 n0_5 k0_5, .int .i64 c0_6, .int .i64 c0_7, .int .i64 c0_8, .int .i64 c0_9, .int .i64 c0_10, .int .i64 c0_11]).ext (Ext.trans (Ext.refl _) hx1)
  have MBa0 := Ba0.lt
  have Z1 := X1.size
  have E1 : Ext w w1 := X1
  clear hx1
  have CBa0 := Ba0.cell; have LBa0 := Ba0.lt
  rcases hv1 with ⟨rfl, q1⟩ | ⟨rfl, q1⟩
  · go_wp2; go_ret; exact ⟨rfl, by repeat' (first | (with_reducible exact Ext.refl _) | (with_reducible assumption) | (with_reducible refine Ext.drewN ?_ _) | (with_reducible refine Ext.drew ?_) | (with_reducible refine Ext.alloc ?_ _) | (with_reducible refine Ext.setCell ?_ ?_ _) | (with_reducible refine Ext.setRow ?_ ?_ _) | (with_reducible exact Nat.le_refl _) | (with_reducible refine Ext.trans ?_ (by assumption)) | omega)⟩
  have q0_0 : rowsSize (nestInt64S l0_0) ≤ 1048576 := by omega
  have q0_1 : rowsSize (nestWrite l0_1) ≤ 1048576 := by omega
  have q0_4 : l0_4.length ≤ 1048576 := by omega
  have q0_5 : l0_5.length ≤ 1048576 := by omega
  go_wp2_with fail
  refine (toStore_c _ _ _ _ _ _ _ _ _ _ (length_flPair _) _ _ _ (length_flJob _) _ _ _ _ _ _ (h0_0.ext (E1.trans (by repeat' (first | (with_reducible exact Ext.refl _) | (with_reducible assumption) | (with_reducible refine Ext.drewN ?_ _) | (with_reducible refine Ext.drew ?_) | (with_reducible refine Ext.alloc ?_ _) | (with_reducible refine Ext.setCell ?_ ?_ _) | (with_reducible refine Ext.setRow ?_ ?_ _) | (with_reducible exact Nat.le_refl _) | (with_reducible refine Ext.trans ?_ (by assumption)) | omega)))) q0_0 (h0_1.ext (E1.trans (by repeat' (first | (with_reducible exact Ext.refl _) | (with_reducible assumption) | (with_reducible refine Ext.drewN ?_ _) | (with_reducible refine Ext.drew ?_) | (with_reducible refine Ext.alloc ?_ _) | (with_reducible refine Ext.setCell ?_ ?_ _) | (with_reducible refine Ext.setRow ?_ ?_ _) | (with_reducible exact Nat.le_refl _) | (with_reducible refine Ext.trans ?_ (by assumption)) | omega)))) q0_1 (h0_4.ext (E1.trans (by repeat' (first | (with_reducible exact Ext.refl _) | (with_reducible assumption) | (with_reducible refine Ext.drewN ?_ _) | (with_reducible refine Ext.drew ?_) | (with_reducible refine Ext.alloc ?_ _) | (with_reducible refine Ext.setCell ?_ ?_ _) | (with_reducible refine Ext.setRow ?_ ?_ _) | (with_reducible exact Nat.le_refl _) | (with_reducible refine Ext.trans ?_ (by assumption)) | omega)))) q0_4 (h0_5.ext (E1.trans (by repeat' (first | (with_reducible exact Ext.refl _) | (with_reducible assumption) | (with_reducible refine Ext.drewN ?_ _) | (with_reducible refine Ext.drew ?_) | (with_reducible refine Ext.alloc ?_ _) | (with_reducible refine Ext.setCell ?_ ?_ _) | (with_reducible refine Ext.setRow ?_ ?_ _) | (with_reducible exact Nat.le_refl _) | (with_reducible refine Ext.trans ?_ (by assumption)) | omega)))) q0_5).mono ?_
  rintro e w2 ⟨_, rfl, hx2, tu0_0, tu0_1, tu0_4, tu0_5, rfl, gu0_0, gu0_1, gu0_4, gu0_5⟩
  have X2 : Ext w1 w2 := by repeat' (first | (with_reducible exact Ext.refl _) | (with_reducible assumption) | (with_reducible refine Ext.drewN ?_ _) | (with_reducible refine Ext.drew ?_) | (with_reducible refine Ext.alloc ?_ _) | (with_reducible refine Ext.setCell ?_ ?_ _) | (with_reducible refine Ext.setRow ?_ ?_ _) | (with_reducible exact Nat.le_refl _) | (with_reducible refine Ext.trans ?_ (by assumption)) | omega)
  have Z2 := X2.size
  have E2 : Ext w w2 := E1.trans X2
  have Ba0 := Ba0.ext X2
  clear hx2
  clear CBa0 LBa0
  have CBa0 := Ba0.cell; have LBa0 := Ba0.lt
  obtain ⟨au0_0, nu0_0, ku0_0, rfl⟩ := gu0_0.shape
  (try have bu0_0 := gu0_0.foot); (try simp only [World.size_alloc] at bu0_0)
  obtain ⟨au0_1, nu0_1, ku0_1, rfl⟩ := gu0_1.shape
  (try have bu0_1 := gu0_1.foot); (try simp only [World.size_alloc] at bu0_1)
  obtain ⟨au0_4, nu0_4, ku0_4, rfl⟩ := gu0_4.shape
  (try have bu0_4 := gu0_4.foot); (try simp only [World.size_alloc] at bu0_4)
  obtain ⟨au0_5, nu0_5, ku0_5, rfl⟩ := gu0_5.shape
  (try have bu0_5 := gu0_5.foot); (try simp only [World.size_alloc] at bu0_5)
  go_wp2_with fail
  refine (sLiesIn_c _ _ _ _ _ _ _ _ _ _ _ _ _ _ _ _ _ ((gu0_0.nest).ext (by repeat' (first | (with_reducible exact Ext.refl _) | (with_reducible assumption) | (with_reducible refine Ext.drewN ?_ _) | (with_reducible refine Ext.drew ?_) | (with_reducible refine Ext.alloc ?_ _) | (with_reducible refine Ext.setCell ?_ ?_ _) | (with_reducible refine Ext.setRow ?_ ?_ _) | (with_reducible exact Nat.le_refl _) | (with_reducible refine Ext.trans ?_ (by assumption)) | omega))) ((gu0_1.nest).ext (by repeat' (first | (with_reducible exact Ext.refl _) | (with_reducible assumption) | (with_reducible refine Ext.drewN ?_ _) | (with_reducible refine Ext.drew ?_) | (with_reducible refine Ext.alloc ?_ _) | (with_reducible refine Ext.setCell ?_ ?_ _) | (with_reducible refine Ext.setRow ?_ ?_ _) | (with_reducible exact Nat.le_refl _) | (with_reducible refine Ext.trans ?_ (by assumption)) | omega))) ((gu0_4.ints).ext (by repeat' (first | (with_reducible exact Ext.refl _) | (with_reducible assumption) | (with_reducible refine Ext.drewN ?_ _) | (with_reducible refine Ext.drew ?_) | (with_reducible refine Ext.alloc ?_ _) | (with_reducible refine Ext.setCell ?_ ?_ _) | (with_reducible refine Ext.setRow ?_ ?_ _) | (with_reducible exact Nat.le_refl _) | (with_reducible refine Ext.trans ?_ (by assumption)) | omega))) ((gu0_5.ints).ext (by repeat' (first | (with_reducible exact Ext.refl _) | (with_reducible assumption) | (with_reducible refine Ext.drewN ?_ _) | (with_reducible refine Ext.drew ?_) | (with_reducible refine Ext.alloc ?_ _) | (with_reducible refine Ext.setCell ?_ ?_ _) | (with_reducible refine Ext.setRow ?_ ?_ _) | (with_reducible exact Nat.le_refl _) | (with_reducible refine Ext.trans ?_ (by assumption)) | omega)))).mono ?_
  rintro e w3 ⟨rfl, hx3⟩
  have X3 : Ext w2 w3 := by repeat' (first | (with_reducible exact Ext.refl _) | (with_reducible assumption) | (with_reducible refine Ext.drewN ?_ _) | (with_reducible refine Ext.drew ?_) | (with_reducible refine Ext.alloc ?_ _) | (with_reducible refine Ext.setCell ?_ ?_ _) | (with_reducible refine Ext.setRow ?_ ?_ _) | (with_reducible exact Nat.le_refl _) | (with_reducible refine Ext.trans ?_ (by assumption)) | omega)
  have Z3 := X3.size
  have E3 : Ext w w3 := E2.trans X3
  have Ba0 := Ba0.ext X3
  have gu0_0 := gu0_0.ext X3
  have gu0_1 := gu0_1.ext X3
  have gu0_4 := gu0_4.ext X3
  have gu0_5 := gu0_5.ext X3
  clear hx3
  clear CBa0 LBa0
  have CBa0 := Ba0.cell; have LBa0 := Ba0.lt
  go_wp2_with fail
  refine (toStore_c _ _ _ _ _ _ _ _ _ _ (length_flPair _) _ _ _ (length_flJob _) _ _ _ _ _ _ (h0_0.ext (E3.trans (by repeat' (first | (with_reducible exact Ext.refl _) | (with_reducible assumption) | (with_reducible refine Ext.drewN ?_ _) | (with_reducible refine Ext.drew ?_) | (with_reducible refine Ext.alloc ?_ _) | (with_reducible refine Ext.setCell ?_ ?_ _) | (with_reducible refine Ext.setRow ?_ ?_ _) | (with_reducible exact Nat.le_refl _) | (with_reducible refine Ext.trans ?_ (by assumption)) | omega)))) q0_0 (h0_1.ext (E3.trans (by repeat' (first | (with_reducible exact Ext.refl _) | (with_reducible assumption) | (with_reducible refine Ext.drewN ?_ _) | (with_reducible refine Ext.drew ?_) | (with_reducible refine Ext.alloc ?_ _) | (with_reducible refine Ext.setCell ?_ ?_ _) | (with_reducible refine Ext.setRow ?_ ?_ _) | (with_reducible exact Nat.le_refl _) | (with_reducible refine Ext.trans ?_ (by assumption)) | omega)))) q0_1 (h0_4.ext (E3.trans (by repeat' (first | (with_reducible exact Ext.refl _) | (with_reducible assumption) | (with_reducible refine Ext.drewN ?_ _) | (with_reducible refine Ext.drew ?_) | (with_reducible refine Ext.alloc ?_ _) | (with_reducible refine Ext.setCell ?_ ?_ _) | (with_reducible refine Ext.setRow ?_ ?_ _) | (with_reducible exact Nat.le_refl _) | (with_reducible refine Ext.trans ?_ (by assumption)) | omega)))) q0_4 (h0_5.ext (E3.trans (by repeat' (first | (with_reducible exact Ext.refl _) | (with_reducible assumption) | (with_reducible refine Ext.drewN ?_ _) | (with_reducible refine Ext.drew ?_) | (with_reducible refine Ext.alloc ?_ _) | (with_reducible refine Ext.setCell ?_ ?_ _) | (with_reducible refine Ext.setRow ?_ ?_ _) | (with_reducible exact Nat.le_refl _) | (with_reducible refine Ext.trans ?_ (by assumption)) | omega)))) q0_5).mono ?_
  rintro e w4 ⟨_, rfl, hx4, tx0_0, tx0_1, tx0_4, tx0_5, rfl, gx0_0, gx0_1, gx0_4, gx0_5⟩
  have X4 : Ext w3 w4 := by repeat' (first | (with_reducible exact Ext.refl _) | (with_reducible assumption) | (with_reducible refine Ext.drewN ?_ _) | (with_reducible refine Ext.drew ?_) | (with_reducible refine Ext.alloc ?_ _) | (with_reducible refine Ext.setCell ?_ ?_ _) | (with_reducible refine Ext.setRow ?_ ?_ _) | (with_reducible exact Nat.le_refl _) | (with_reducible refine Ext.trans ?_ (by assumption)) | omega)
  have Z4 := X4.size
  have E4 : Ext w w4 := E3.trans X4
  have Ba0 := Ba0.ext X4
  clear hx4
  clear CBa0 LBa0
  have CBa0 := Ba0.cell; have LBa0 := Ba0.lt
  obtain ⟨ax0_0, nx0_0, kx0_0, rfl⟩ := gx0_0.shape
  (try have bx0_0 := gx0_0.foot); (try simp only [World.size_alloc] at bx0_0)
  obtain ⟨ax0_1, nx0_1, kx0_1, rfl⟩ := gx0_1.shape
  (try have bx0_1 := gx0_1.foot); (try simp only [World.size_alloc] at bx0_1)
  obtain ⟨ax0_4, nx0_4, kx0_4, rfl⟩ := gx0_4.shape
  (try have bx0_4 := gx0_4.foot); (try simp only [World.size_alloc] at bx0_4)
  obtain ⟨ax0_5, nx0_5, kx0_5, rfl⟩ := gx0_5.shape
  (try have bx0_5 := gx0_5.foot); (try simp only [World.size_alloc] at bx0_5)
  go_wp2_with fail
  refine (liesIn_c _ _ _ _ _ _ _ _ _ _ _ _ _ _ _ _ _ ((gx0_0.nest).ext (by repeat' (first | (with_reducible exact Ext.refl _) | (with_reducible assumption) | (with_reducible refine Ext.drewN ?_ _) | (with_reducible refine Ext.drew ?_) | (with_reducible refine Ext.alloc ?_ _) | (with_reducible refine Ext.setCell ?_ ?_ _) | (with_reducible refine Ext.setRow ?_ ?_ _) | (with_reducible exact Nat.le_refl _) | (with_reducible refine Ext.trans ?_ (by assumption)) | omega))) ((gx0_1.nest).ext (by repeat' (first | (with_reducible exact Ext.refl _) | (with_reducible assumption) | (with_reducible refine Ext.drewN ?_ _) | (with_reducible refine Ext.drew ?_) | (with_reducible refine Ext.alloc ?_ _) | (with_reducible refine Ext.setCell ?_ ?_ _) | (with_reducible refine Ext.setRow ?_ ?_ _) | (with_reducible exact Nat.le_refl _) | (with_reducible refine Ext.trans ?_ (by assumption)) | omega))) ((gx0_4.ints).ext (by repeat' (first | (with_reducible exact Ext.refl _) | (with_reducible assumption) | (with_reducible refine Ext.drewN ?_ _) | (with_reducible refine Ext.drew ?_) | (with_reducible refine Ext.alloc ?_ _) | (with_reducible refine Ext.setCell ?_ ?_ _) | (with_reducible refine Ext.setRow ?_ ?_ _) | (with_reducible exact Nat.le_refl _) | (with_reducible refine Ext.trans ?_ (by assumption)) | omega))) ((gx0_5.ints).ext (by repeat' (first | (with_reducible exact Ext.refl _) | (with_reducible assumption) | (with_reducible refine Ext.drewN ?_ _) | (with_reducible refine Ext.drew ?_) | (with_reducible refine Ext.alloc ?_ _) | (with_reducible refine Ext.setCell ?_ ?_ _) | (with_reducible refine Ext.setRow ?_ ?_ _) | (with_reducible exact Nat.le_refl _) | (with_reducible refine Ext.trans ?_ (by assumption)) | omega)))).mono ?_
  rintro e w5 ⟨rfl, hx5⟩
  have X5 : Ext w4 w5 := by repeat' (first | (with_reducible exact Ext.refl _) | (with_reducible assumption) | (with_reducible refine Ext.drewN ?_ _) | (with_reducible refine Ext.drew ?_) | (with_reducible refine Ext.alloc ?_ _) | (with_reducible refine Ext.setCell ?_ ?_ _) | (with_reducible refine Ext.setRow ?_ ?_ _) | (with_reducible exact Nat.le_refl _) | (with_reducible refine Ext.trans ?_ (by assumption)) | omega)
  have Bx0 : Blk w5 w4.heap.size 58 #[.slice ax0_0 nx0_0 kx0_0, .slice ax0_1 nx0_1 kx0_1, .int .i64 c0_2, .int .i64 c0_3, .slice ax0_4 nx0_4 kx0_4, .slice ax0_5 nx0_5 kx0_5, .int .i64 c0_6, .int .i64 c0_7, .int .i64 c0_8, .int .i64 c0_9, .int .i64 c0_10, .int .i64 c0_11] := (Blk.new w4 58 #[.slice ax0_0 nx0_0 kx0_0, .slice ax0_1 nx0_1 kx0_1, .int .i64 c0_2, .int .i64 c0_3, .slice ax0_4 nx0_4 kx0_4, .slice ax0_5 nx0_5 kx0_5, .int .i64 c0_6, .int .i64 c0_7, .int .i64 c0_8, .int .i64 c0_9, .int .i64 c0_10, .int .i64 c0_11]).ext (Ext.trans (Ext.refl _) hx5)
  have MBx0 := Bx0.lt
  have Z5 := X5.size
  have E5 : Ext w w5 := E4.trans X5
  have Ba0 := Ba0.ext X5
  have gx0_0 := gx0_0.ext X5
  have gx0_1 := gx0_1.ext X5
  have gx0_4 := gx0_4.ext X5
  have gx0_5 := gx0_5.ext X5
  clear hx5
  clear CBa0 LBa0
  have CBa0 := Ba0.cell; have LBa0 := Ba0.lt
  have CBx0 := Bx0.cell; have LBx0 := Bx0.lt
  as_aux_lemma =>
    go_wp2_with fail
    have p00 : ∀ w', Ext w5 w' → w'.cell? ⟨_, 0, none⟩ = some (.slice a0_0 n0_0 k0_0) := fun w' hw => (Ba0.ext hw).cell 0
    have p01 : ∀ w', Ext w5 w' → w'.cell? ⟨_, 1, none⟩ = some (.slice a0_1 n0_1 k0_1) := fun w' hw => (Ba0.ext hw).cell 1
    have p02 : ∀ w', Ext w5 w' → w'.cell? ⟨_, 2, none⟩ = some (.int .i64 c0_2) := fun w' hw => (Ba0.ext hw).cell 2
    have p03 : ∀ w', Ext w5 w' → w'.cell? ⟨_, 3, none⟩ = some (.int .i64 c0_3) := fun w' hw => (Ba0.ext hw).cell 3
    have p04 : ∀ w', Ext w5 w' → w'.cell? ⟨_, 4, none⟩ = some (.slice a0_4 n0_4 k0_4) := fun w' hw => (Ba0.ext hw).cell 4
    have p05 : ∀ w', Ext w5 w' → w'.cell? ⟨_, 5, none⟩ = some (.slice a0_5 n0_5 k0_5) := fun w' hw => (Ba0.ext hw).cell 5
    have p06 : ∀ w', Ext w5 w' → w'.cell? ⟨_, 6, none⟩ = some (.int .i64 c0_6) := fun w' hw => (Ba0.ext hw).cell 6
    have p07 : ∀ w', Ext w5 w' → w'.cell? ⟨_, 7, none⟩ = some (.int .i64 c0_7) := fun w' hw => (Ba0.ext hw).cell 7
    have p08 : ∀ w', Ext w5 w' → w'.cell? ⟨_, 8, none⟩ = some (.int .i64 c0_8) := fun w' hw => (Ba0.ext hw).cell 8
    have p09 : ∀ w', Ext w5 w' → w'.cell? ⟨_, 9, none⟩ = some (.int .i64 c0_9) := fun w' hw => (Ba0.ext hw).cell 9
    have p010 : ∀ w', Ext w5 w' → w'.cell? ⟨_, 10, none⟩ = some (.int .i64 c0_10) := fun w' hw => (Ba0.ext hw).cell 10
    have p011 : ∀ w', Ext w5 w' → w'.cell? ⟨_, 11, none⟩ = some (.int .i64 c0_11) := fun w' hw => (Ba0.ext hw).cell 11
    have q00 : ∀ w', Ext w5 w' → w'.cell? ⟨_, 0, none⟩ = some (.slice ax0_0 nx0_0 kx0_0) := fun w' hw => (Bx0.ext hw).cell 0
    have q01 : ∀ w', Ext w5 w' → w'.cell? ⟨_, 1, none⟩ = some (.slice ax0_1 nx0_1 kx0_1) := fun w' hw => (Bx0.ext hw).cell 1
    have q02 : ∀ w', Ext w5 w' → w'.cell? ⟨_, 2, none⟩ = some (.int .i64 c0_2) := fun w' hw => (Bx0.ext hw).cell 2
    have q03 : ∀ w', Ext w5 w' → w'.cell? ⟨_, 3, none⟩ = some (.int .i64 c0_3) := fun w' hw => (Bx0.ext hw).cell 3
    have q04 : ∀ w', Ext w5 w' → w'.cell? ⟨_, 4, none⟩ = some (.slice ax0_4 nx0_4 kx0_4) := fun w' hw => (Bx0.ext hw).cell 4
    have q05 : ∀ w', Ext w5 w' → w'.cell? ⟨_, 5, none⟩ = some (.slice ax0_5 nx0_5 kx0_5) := fun w' hw => (Bx0.ext hw).cell 5
    have q06 : ∀ w', Ext w5 w' → w'.cell? ⟨_, 6, none⟩ = some (.int .i64 c0_6) := fun w' hw => (Bx0.ext hw).cell 6
    have q07 : ∀ w', Ext w5 w' → w'.cell? ⟨_, 7, none⟩ = some (.int .i64 c0_7) := fun w' hw => (Bx0.ext hw).cell 7
    have q08 : ∀ w', Ext w5 w' → w'.cell? ⟨_, 8, none⟩ = some (.int .i64 c0_8) := fun w' hw => (Bx0.ext hw).cell 8
    have q09 : ∀ w', Ext w5 w' → w'.cell? ⟨_, 9, none⟩ = some (.int .i64 c0_9) := fun w' hw => (Bx0.ext hw).cell 9
    have q010 : ∀ w', Ext w5 w' → w'.cell? ⟨_, 10, none⟩ = some (.int .i64 c0_10) := fun w' hw => (Bx0.ext hw).cell 10
    have q011 : ∀ w', Ext w5 w' → w'.cell? ⟨_, 11, none⟩ = some (.int .i64 c0_11) := fun w' hw => (Bx0.ext hw).cell 11
    clear CBa0 LBa0 CBx0 LBx0
    go_region_held3 (fun w' => Ext w5 w') (first | exact Ext.drew (Ext.refl _) | exact Ext.trans (by assumption) hx6 | exact Ext.trans (by assumption) hx7) (first | (go_at_call 21; refine (toStore_c _ _ _ _ _ _ _ _ _ _ (length_flPair _) _ _ _ (length_flJob _) _ _ _ _ _ _ (h0_0.ext (Ext.trans E5 (by assumption))) q0_0 (h0_1.ext (Ext.trans E5 (by assumption))) q0_1 (h0_4.ext (Ext.trans E5 (by assumption))) q0_4 (h0_5.ext (Ext.trans E5 (by assumption))) q0_5).mono ?_; rintro e w6 ⟨_, rfl, hx6, tz0_0, tz0_1, tz0_4, tz0_5, rfl, gz0_0, gz0_1, gz0_4, gz0_5⟩; obtain ⟨az0_0, nz0_0, kz0_0, rfl⟩ := gz0_0.shape; obtain ⟨az0_1, nz0_1, kz0_1, rfl⟩ := gz0_1.shape; obtain ⟨az0_4, nz0_4, kz0_4, rfl⟩ := gz0_4.shape; obtain ⟨az0_5, nz0_5, kz0_5, rfl⟩ := gz0_5.shape) | (go_at_call 23; refine (eqStore_c _ _ _ _ _ _ _ _ _ _ _ _ _ _ _ _ _ _ _ _ _ ((gx0_0.nest).ext (by assumption)) (gz0_0.nest) ((gx0_1.nest).ext (by assumption)) (gz0_1.nest) ((gx0_4.ints).ext (by assumption)) (gz0_4.ints) ((gx0_5.ints).ext (by assumption)) (gz0_5.ints)).mono ?_; rintro e w7 ⟨rfl, hx7⟩))
    have X7 : Ext w5 w7 := by assumption
    clear p00 p01 p02 p03 p04 p05 p06 p07 p08 p09 p010 p011 q00 q01 q02 q03 q04 q05 q06 q07 q08 q09 q010 q011
    clear hx7
    have Z7 := X7.size; have E7 : Ext w w7 := E5.trans X7
    have Ba0 := Ba0.ext X7
    have gx0_0 := gx0_0.ext X7
    have gx0_1 := gx0_1.ext X7
    have gx0_4 := gx0_4.ext X7
    have gx0_5 := gx0_5.ext X7
    have Bx0 := Bx0.ext X7
    have CBa0 := Ba0.cell; have LBa0 := Ba0.lt
    have CBx0 := Bx0.cell; have LBx0 := Bx0.lt
    go_wp2
    go_ret
    exact ⟨rfl, E7⟩
end Go.Proofs.YthdiaijiokoifaaGreat

-- The statement FnExactLiesIn: for every input the law returns true.
namespace Go.Proofs.YthdiaijiokoifaaGreat.fnExactLiesIn
open Go.ChangeShapes Go.WideShapes Go.ChangeAt Go.RowKit Go.G8
open Go.Proofs.YthdiaijiokoifaaGreat.facts (b2)

set_option maxRecDepth 100000 in
theorem lifted (os : Os) (started : os.Started) (H : Type) (enc : TypeId × Value → H) :
    ReturnsInHanded {} Tryz.checked os 4 .any (Rows.fnExactLiesInSpec.pre6 enc Tryz.prog Tryz.f4 Rows.fnExactLiesInRow.domain false) (Rows.fnExactLiesInSpec.post enc Tryz.prog Tryz.f4 false true false false) := by
  refine returnsInHanded_of_change (C := Tryz.checked) own started (by kernel_rfl) Tryz.func4
    (ChangeSpec.witness6 (enc := enc) (C := Tryz.checked) false ⟨#[], #[.agg #[.slice none 0 0, .slice none 0 0, .int .i64 0, .int .i64 0, .slice none 0 0, .slice none 0 0, .int .i64 0, .int .i64 0, .int .i64 0, .int .i64 0, .int .i64 0, .int .i64 0]], []⟩ 8 (by kernel_rfl) (by kernel_rfl) (by kernel_rfl) (by kernel_rfl)) ?_
  intro W base args ds gs before hval0 hW _ _
  have hval : ∀ (j : Nat) t v, Tryz.f4.params[j]? = some t → args[j]? = some v → Value.okWide Tryz.prog W .any base t v := hval0
  have hW' := hW
  obtain ⟨p, q, hA0, hV, rfl, hfz, hnd⟩ := hW
  have hA : DataW.TrodAll enc Tryz.prog W 0 (fun _ => true) true Tryz.f4.params.toList args.toList ds p := hA0
  rw [Tryz.params4] at hA hval
  obtain ⟨v0, vs0, d0, ds0, p0, q0, hargs, rfl, rfl, h0, r0⟩ := trodAll_cons hA
  obtain ⟨rfl, rfl, rfl⟩ := trodAll_nil r0
  obtain rfl : args = #[v0] := by cases args; simp_all
  obtain ⟨rfl, rfl⟩ := trodVars_none hV
  have k0 := h0
  have lt0 : ∀ x ∈ p0, x.block < W.heap.size := by obtain ⟨m, hm⟩ := k0; exact DataW.trod_lt m _ _ _ hm
  have hv0 := hval 0 51 v0 rfl rfl
  unfold Value.okWide at hv0
  rw [Tryz.underlying51] at hv0
  obtain ⟨cs0, rfl, _, _⟩ := hv0
  obtain ⟨m0, hm0⟩ := h0
  obtain ⟨s0_0, l0_0, s0_1, l0_1, c0_2, c0_3, s0_4, l0_4, s0_5, l0_5, c0_6, c0_7, c0_8, c0_9, c0_10, c0_11, e0, g0_0, g0_1, g0_4, g0_5⟩ := rl_Store hm0
  obtain rfl : cs0 = #[s0_0, s0_1, .int .i64 c0_2, .int .i64 c0_3, s0_4, s0_5, .int .i64 c0_6, .int .i64 c0_7, .int .i64 c0_8, .int .i64 c0_9, .int .i64 c0_10, .int .i64 c0_11] := by cases cs0; simp_all [Value.cells]
  clear hA0 hval0
  refine (law_LiesIn W _ _ _ _ _ _ _ _ _ _ _ _ _ _ _ _ g0_0 g0_1 g0_4 g0_5).mono fun e W' ⟨he, bel0⟩ => ?_
  have bel : Below W.heap.size W W' := bel0
  subst he
  exact ⟨_, rfl, _, _, _, [], _, [], hW', trodAll_mk1 (shut_bool Tryz.underlying4 _), (trodAll_cons_mk (Below.trod laidOut (by kernel_rfl) (of_decide_eq_true (by kernel_rfl)) k0 bel lt0) trodAll_mk0), rfl, bel.frame _, fun h => by cases h⟩

theorem k0 : (Rows.fnExactLiesInRow.wf (OpenSpec.ofChange Rows.fnExactLiesInSpec)) = true := by kernel_rfl
theorem k1 : (laidOutB Tryz.checked.prog) = true := facts.k1
theorem k2 : (mapsRowed Tryz.checked.prog) = true := facts.k2
theorem k3 : (Tryz.f4.params.all (Tryz.checked.prog.readableRec ·)) = true := by kernel_rfl
theorem k4 : (namedTie Tryz.checked.prog Rows.fnExactLiesInRow.named Rows.fnExactLiesInSpec.vars) = true := by kernel_rfl
theorem k5 : ((Rows.fnExactLiesInRow.stops == [])) = true := by kernel_rfl
theorem k6 : ((Tryz.checked.prog.stops == [])) = true := facts.k6
theorem k7 : ((Rows.fnExactLiesInRow.knobs == [])) = true := by kernel_rfl
theorem k8 : ((Tryz.checked.prog.stopKnobs == [])) = true := facts.k8
theorem k9 : ((Rows.fnExactLiesInRow.inPlace == Tryz.checked.prog.inPlace 4)) = true := by kernel_rfl
theorem k10 : ((Rows.fnExactLiesInRow.unfollowed == Tryz.checked.prog.unfollowed 4)) = true := by kernel_rfl
theorem k11 : ((Rows.fnExactLiesInRow.recurses == Tryz.checked.prog.recurses 4)) = true := by kernel_rfl
theorem k12 : ((Rows.fnExactLiesInRow.named == Tryz.checked.prog.varsNamed 4)) = true := by kernel_rfl
theorem k13 : ((Rows.fnExactLiesInRow.maps == (Tryz.f4.params.toList ++ Rows.fnExactLiesInSpec.plain.varTypes Tryz.checked.prog).any (Tryz.checked.prog.mapsRec ·))) = true := by kernel_rfl
theorem k14 : ((Rows.fnExactLiesInRow.ifaces == (Tryz.f4.params.toList ++ Rows.fnExactLiesInSpec.plain.varTypes Tryz.checked.prog).any (Tryz.checked.prog.ifacesRec ·))) = true := by kernel_rfl
theorem k15 : ((Rows.fnExactLiesInRow.mapsOut == Tryz.checked.prog.mapsAmong Tryz.f4.resultTypes.toList)) = true := by kernel_rfl
theorem k16 : ((Rows.fnExactLiesInRow.loops == (Tryz.f4.params.toList ++ Rows.fnExactLiesInSpec.plain.varTypes Tryz.checked.prog).any (Tryz.checked.prog.loopsFrom ·))) = true := by kernel_rfl
theorem k17 : ((Rows.fnExactLiesInRow.wideKeys == (Tryz.f4.params.toList ++ Rows.fnExactLiesInSpec.plain.varTypes Tryz.checked.prog ++ Tryz.f4.resultTypes.toList).any (Tryz.checked.prog.wideKeysFrom ·))) = true := by kernel_rfl
theorem k18 : (Rows.fnExactLiesInSpec.vars.all (Tryz.checked.prog.varReadable ·)) = true := by kernel_rfl
theorem k19 : (Tryz.f4.resultTypes.all (fun t => Tryz.checked.prog.readableRec t && decide (t < Tryz.checked.prog.types.size))) = true := by kernel_rfl
theorem k20 : ((Rows.fnExactLiesInRow.ifacesOut == Tryz.f4.resultTypes.toList.any (Tryz.checked.prog.ifacesRec ·))) = true := by kernel_rfl
theorem k21 : ((Rows.fnExactLiesInRow.loopsOut == Tryz.f4.resultTypes.toList.any (Tryz.checked.prog.loopsFrom ·))) = true := by kernel_rfl
theorem k22 : ((Rows.fnExactLiesInRow.plainKeys == Tryz.checked.prog.plainKeys)) = true := facts.k22
theorem k23 : (Rows.fnExactLiesInRow.shortTexts.isNone) = true := by kernel_rfl
theorem k24 : (Tryz.checked.prog.stopsHeard) = true := facts.k24
theorem k25 : (Tryz.checked.prog.mayEnter) = true := facts.k25
theorem k26 : ((Rows.fnExactLiesInRow.lifted == Tryz.checked.prog.liftsFinal)) = true := facts.k26
theorem k27 : ((Tryz.checked.prog.make == some Rows.fnExactLiesInRow.make)) = true := facts.k27
theorem k28 : ((Rows.fnExactLiesInRow.kinds == (if Rows.fnExactLiesInRow.domain.isEmpty then [] else Tryz.f4.params.toList.map fun t => match Tryz.checked.prog.underlying t with | some (.int k) => some k | _ => none))) = true := by kernel_rfl
theorem k29 : ((Rows.fnExactLiesInRow.pinned == Rows.fnExactLiesInRow.pinnedBy)) = true := by kernel_rfl
theorem k30 : ((Rows.fnExactLiesInRow.veiled == (Tryz.f4.params.toList ++ Rows.fnExactLiesInSpec.plain.varTypes Tryz.checked.prog ++ Tryz.f4.resultTypes.toList).any (Tryz.checked.prog.veiledRec ·))) = true := by kernel_rfl
theorem k31 : (Rows.fnExactLiesInRow.veiledFits Tryz.checked.prog Tryz.f4.params.toList (Tryz.f4.params.toList ++ Rows.fnExactLiesInSpec.plain.varTypes Tryz.checked.prog ++ Tryz.f4.resultTypes.toList)) = true := by kernel_rfl
set_option maxRecDepth 100000 in
theorem closed : joinedFacts Tryz.checked.prog 4 Tryz.f4 Rows.fnExactLiesInSpec Rows.fnExactLiesInRow = true := by
  unfold joinedFacts
  exact (b2 (b2 (b2 (b2 (b2 (b2 (b2 (b2 (b2 (b2 (b2 (b2 (b2 (b2 (b2 (b2 (b2 (b2 (b2 (b2 (b2 (b2 (b2 (b2 (b2 (b2 (b2 (b2 (b2 (b2 (b2 k0 k1) k2) k3) k4) k5) k6) k7) k8) k9) k10) k11) k12) k13) k14) k15) k16) k17) k18) k19) k20) k21) k22) k23) k24) k25) k26) k27) k28) k29) k30) k31)

theorem proved : Rows.FnExactLiesInSaid :=
  OpenClaim.holds_of_wide 4 Tryz.f4 rfl rfl rfl rfl rfl rfl rfl ⟨rfl, rfl, rfl, rfl, rfl⟩ rfl rfl rfl rfl rfl (by as_aux_lemma => kernel_rfl) Tryz.func4 closed
    (of_decide_eq_true (by as_aux_lemma => kernel_rfl)) (by as_aux_lemma => (unfold Func.isWrapper; rw [if_neg (of_decide_eq_false (by kernel_rfl))]; exact ⟨rfl, rfl⟩))
    (fun os started H enc _ => lifted os started H enc)
end Go.Proofs.YthdiaijiokoifaaGreat.fnExactLiesIn
