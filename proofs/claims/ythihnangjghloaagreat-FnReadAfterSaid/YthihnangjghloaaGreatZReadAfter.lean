/- The statement FnReadAfter: the walk and the row. -/
import Derived.Test.YthihnangjghloaaGreatGa
import Derived.Test.YthihnangjghloaaGreatGq
import Derived.Test.YthihnangjghloaaGreatIe
import Derived.Test.YthihnangjghloaaGreatIj
import Derived.Test.YthihnangjghloaaGreatGj
import Derived.Test.YthihnangjghloaaGreatGl
import Derived.Test.YthihnangjghloaaGreatGc
set_option linter.unusedSimpArgs false
set_option linter.unusedVariables false
-- The statement's walk: FnReadAfter.
set_option linter.unusedSimpArgs false
set_option linter.unusedVariables false
namespace Go.Proofs.YthihnangjghloaaGreat
open Go.RowKit Go.G8

set_option maxHeartbeats 4000000 in
set_option maxRecDepth 100000 in
theorem law_ReadAfter (w : World) (v : Value) (h : Bytes w v) : Calls Tryz.prog 5 #[v] w (RetV w (.bool true)) := by
 obtain ⟨bs, hbs, hbo⟩ := h
 obtain ⟨a, n, k, rfl⟩ := hbs.shape
 have HB : Bytes w (.slice a n k) := ⟨bs, hbs, hbo⟩
 clear hbs hbo
 have E0 : Ext w w := Ext.refl _
 go_enter Tryz.func5, Tryz.ntmps5
 go_wp2_with fail
 refine (big_c _ a n k).mono ?_
 rintro e9 w9 ⟨rfl, rfl⟩
 by_cases hbig : (4096 : Int) < (n : Int)
 ·
  go_wp2_with fail
  go_ret
  exact ⟨rfl, by exact extT⟩
 go_wp2_with fail
 refine (drawReadBy_c (HB.ext (by exact extT))).mono ?_
 rintro e w1 ⟨_, rfl, hx1, s, x, ra, rb, rc, re, rfl, gs⟩
 have X1 : Ext w w1 := Ext.trans (by exact extT) hx1
 have hz1 := X1.size
 have hy1 := hx1.size; (try simp only [szA] at hy1)
 have HB := HB.ext X1
 have E1 : Ext w w1 := E0.trans X1
 clear hx1 X1
 clear HB
 obtain ⟨az0, nz0, kz0, az1, nz1, kz1, az4, nz4, kz4, az5, nz5, kz5, rfl⟩ := gs.shape
 obtain ⟨_, _, t4, t5, ev, _, _, gp, _⟩ := id gs
 injection ev with ev; simp only [Array.mk.injEq, List.cons.injEq, and_true, true_and] at ev; obtain ⟨-, -, rfl, -⟩ := ev
 obtain ⟨ix, hix⟩ : ∃ i : Int, s.State.Index = i := ⟨_, rfl⟩
 have gs0 := gs; rw [hix] at gs ⊢; have HI := Lib.hid hix; clear hix gs0
 have X1 : Ext w1 w1 := Ext.refl _
 have gs9 := gs
 have gp9 := gp
 go_wp2_with fail
 refine (sStoreOk_k (gs.ext (by exact extT))).mono ?_
 rintro e w2 ⟨rfl, hx2⟩
 have X2 : Ext w1 w2 := Ext.trans (by exact extT) hx2
 have hz2 := hx2.size; (try simp only [szA] at hz2)
 have KS2 : Blk w2 w1.heap.size 65 #[.slice az0 nz0 kz0, .slice az1 nz1 kz1, .int .i64 ix, .int .i64 s.State.Time, .slice az4 nz4 kz4, .slice az5 nz5 kz5, .int .i64 s.State.Lease.Holder, .int .i64 s.State.Lease.Epoch, .int .i64 s.State.Lease.Until, .int .i64 s.Num, .int .i64 s.Last, .int .i64 s.Busy] := Blk.ext (Blk.cast (by exact blkT) setsT) hx2
 have KQ2 : Blk w2 (w1.heap.size + 1) 67 #[.int .i64 ra, .int .i64 rb, .int .i64 rc, .int .i64 re] := Blk.ext (Blk.cast (by exact blkT) setsT) hx2
 have gs := gs9.ext X2
 have gp := gp9.ext X2
 have E2 : Ext w w2 := E1.trans X2
 clear hx2 X1
 have CS2 := KS2.cell; have FS2 := KS2.frozen; have LS2 := KS2.lt
 have CQ2 := KQ2.cell; have FQ2 := KQ2.frozen; have LQ2 := KQ2.lt
 cases hb : storeOk s
 ·
  skip
  go_wp2_with fail
  refine (readBy_k (gs9.ext (by exact extT)) ra rb rc re).mono ?_
  rintro e w3 ⟨rfl, hx3⟩
  have X3 : Ext w1 w3 := Ext.trans (by exact extT) hx3
  have hz3 := hx3.size; (try simp only [szA] at hz3)
  have KS3 : Blk w3 w1.heap.size 65 #[.slice az0 nz0 kz0, .slice az1 nz1 kz1, .int .i64 ix, .int .i64 s.State.Time, .slice az4 nz4 kz4, .slice az5 nz5 kz5, .int .i64 s.State.Lease.Holder, .int .i64 s.State.Lease.Epoch, .int .i64 s.State.Lease.Until, .int .i64 s.Num, .int .i64 s.Last, .int .i64 s.Busy] := Blk.ext (Blk.cast (by exact blkT) setsT) hx3
  clear KS2
  have KQ3 : Blk w3 (w1.heap.size + 1) 67 #[.int .i64 ra, .int .i64 rb, .int .i64 rc, .int .i64 re] := Blk.ext (Blk.cast (by exact blkT) setsT) hx3
  clear KQ2
  have gs := gs9.ext X3
  have gp := gp9.ext X3
  have E3 : Ext w w3 := E1.trans X3
  clear hx3 X2 E2
  clear CS2 FS2 LS2 CQ2 FQ2 LQ2
  have CS3 := KS3.cell; have FS3 := KS3.frozen; have LS3 := KS3.lt
  have CQ3 := KQ3.cell; have FQ3 := KQ3.frozen; have LQ3 := KQ3.lt
  rw [rb_no (.inl hb)]
  go_wp2_with fail
  go_ret
  exact ⟨by first | rfl | (simp [*]; done), by exact extT⟩
 ·
  skip
  go_wp2_with fail
  refine (specReadOk_c _ ra rb rc re).mono ?_
  rintro e w3 ⟨rfl, hx3⟩
  have X3 : Ext w1 w3 := Ext.trans (by exact extT) hx3
  have hz3 := hx3.size; (try simp only [szA] at hz3)
  have KS3 : Blk w3 w1.heap.size 65 #[.slice az0 nz0 kz0, .slice az1 nz1 kz1, .int .i64 ix, .int .i64 s.State.Time, .slice az4 nz4 kz4, .slice az5 nz5 kz5, .int .i64 s.State.Lease.Holder, .int .i64 s.State.Lease.Epoch, .int .i64 s.State.Lease.Until, .int .i64 s.Num, .int .i64 s.Last, .int .i64 s.Busy] := Blk.ext (Blk.cast (by exact blkT) setsT) hx3
  clear KS2
  have KQ3 : Blk w3 (w1.heap.size + 1) 67 #[.int .i64 ra, .int .i64 rb, .int .i64 rc, .int .i64 re] := Blk.ext (Blk.cast (by exact blkT) setsT) hx3
  clear KQ2
  have gs := gs9.ext X3
  have gp := gp9.ext X3
  have E3 : Ext w w3 := E1.trans X3
  clear hx3 X2 E2
  clear CS2 FS2 LS2 CQ2 FQ2 LQ2
  have CS3 := KS3.cell; have FS3 := KS3.frozen; have LS3 := KS3.lt
  have CQ3 := KQ3.cell; have FQ3 := KQ3.frozen; have LQ3 := KQ3.lt
  cases hr : rrOk (⟨ra, rb, rc, re⟩ : DRead)
  ·
   skip
   go_wp2_with fail
   refine (readBy_k (gs9.ext (by exact extT)) ra rb rc re).mono ?_
   rintro e w4 ⟨rfl, hx4⟩
   have X4 : Ext w1 w4 := Ext.trans (by exact extT) hx4
   have hz4 := hx4.size; (try simp only [szA] at hz4)
   have KS4 : Blk w4 w1.heap.size 65 #[.slice az0 nz0 kz0, .slice az1 nz1 kz1, .int .i64 ix, .int .i64 s.State.Time, .slice az4 nz4 kz4, .slice az5 nz5 kz5, .int .i64 s.State.Lease.Holder, .int .i64 s.State.Lease.Epoch, .int .i64 s.State.Lease.Until, .int .i64 s.Num, .int .i64 s.Last, .int .i64 s.Busy] := Blk.ext (Blk.cast (by exact blkT) setsT) hx4
   clear KS3
   have KQ4 : Blk w4 (w1.heap.size + 1) 67 #[.int .i64 ra, .int .i64 rb, .int .i64 rc, .int .i64 re] := Blk.ext (Blk.cast (by exact blkT) setsT) hx4
   clear KQ3
   have gs := gs9.ext X4
   have gp := gp9.ext X4
   have E4 : Ext w w4 := E1.trans X4
   clear hx4 X3 E3
   clear CS3 FS3 LS3 CQ3 FQ3 LQ3
   have CS4 := KS4.cell; have FS4 := KS4.frozen; have LS4 := KS4.lt
   have CQ4 := KQ4.cell; have FQ4 := KQ4.frozen; have LQ4 := KQ4.lt
   rw [rb_no (.inr hr)]
   go_wp2_with fail
   go_ret
   exact ⟨by first | rfl | (simp [*]; done), by exact extT⟩
  ·
   skip
   obtain ⟨y1, y2⟩ := rb_yes hb hr
   rw [HI.out] at y1 y2
   have hi := stateOk_index (storeOk_state hb); rw [HI.out] at hi; have i0 := hi.1; have i1 := hi.2; clear hi
   have hpo := storeOk_pairs hb
   obtain ⟨hs, hhs⟩ : ∃ b, b = vhas s.State.Pairs rc := ⟨_, rfl⟩
   obtain ⟨vn, hvn⟩ : ∃ b, b = vnum s.State.Pairs rc := ⟨_, rfl⟩
   rw [← hhs, ← hvn] at y2
   have Y1 := Lib.hid y1; have Y2 := Lib.hid y2; have HB9 := Lib.hid hb; have HP := Lib.hid hpo; have HH := Lib.hid hhs; have HV := Lib.hid hvn; clear y1 y2 hb hr hpo hhs hvn
   cases hs
   ·
    skip
    have y3 := Y2.out; clear Y2; simp only [if_true, if_false, Bool.false_eq_true, reduceIte] at y3
    go_wp2_with fail
    refine (readBy_k (gs9.ext (by exact extT)) ra rb rc ix).mono ?_
    rintro e w4 ⟨rfl, hx4⟩
    have X4 : Ext w1 w4 := Ext.trans (by exact extT) hx4
    have hz4 := hx4.size; (try simp only [szA] at hz4)
    have KS4 : Blk w4 w1.heap.size 65 #[.slice az0 nz0 kz0, .slice az1 nz1 kz1, .int .i64 ix, .int .i64 s.State.Time, .slice az4 nz4 kz4, .slice az5 nz5 kz5, .int .i64 s.State.Lease.Holder, .int .i64 s.State.Lease.Epoch, .int .i64 s.State.Lease.Until, .int .i64 s.Num, .int .i64 s.Last, .int .i64 s.Busy] := Blk.ext (Blk.cast (by exact blkT) setsT) hx4
    clear KS3
    have KQ4 : Blk w4 (w1.heap.size + 1) 67 #[.int .i64 ra, .int .i64 rb, .int .i64 rc, .int .i64 ix] := Blk.ext (Blk.cast (by exact blkT) setsT) hx4
    clear KQ3
    have gs := gs9.ext X4
    have gp := gp9.ext X4
    have E4 : Ext w w4 := E1.trans X4
    clear hx4 X3 E3
    clear CS3 FS3 LS3 CQ3 FQ3 LQ3
    have CS4 := KS4.cell; have FS4 := KS4.frozen; have LS4 := KS4.lt
    have CQ4 := KQ4.cell; have FQ4 := KQ4.frozen; have LQ4 := KQ4.lt
    rw [Y1.out, y3]; (try simp only []); clear y3
    go_wp2_with fail
    refine (sValueAt_c _ _ _ rc (gp9.ext (by exact extT)) HP.out).mono ?_
    rintro e w5 ⟨rfl, hx5⟩
    have X5 : Ext w1 w5 := Ext.trans (by exact extT) hx5
    have hz5 := hx5.size; (try simp only [szA] at hz5)
    have KS5 : Blk w5 w1.heap.size 65 #[.slice az0 nz0 kz0, .slice az1 nz1 kz1, .int .i64 ix, .int .i64 s.State.Time, .slice az4 nz4 kz4, .slice az5 nz5 kz5, .int .i64 s.State.Lease.Holder, .int .i64 s.State.Lease.Epoch, .int .i64 s.State.Lease.Until, .int .i64 s.Num, .int .i64 s.Last, .int .i64 s.Busy] := Blk.ext (Blk.cast (by exact blkT) setsT) hx5
    clear KS4
    have KQ5 : Blk w5 (w1.heap.size + 1) 67 #[.int .i64 ra, .int .i64 rb, .int .i64 rc, .int .i64 ix] := Blk.ext (Blk.cast (by exact blkT) setsT) hx5
    clear KQ4
    have KV5 : Blk w5 w4.heap.size 73 #[.int .i64 ra, .int .i64 rb, .int .i64 ix, .int .i64 0, .int .i64 vn] := Blk.ext (Blk.cast (by exact blkT) setsT) hx5
    have gs := gs9.ext X5
    have gp := gp9.ext X5
    have E5 : Ext w w5 := E1.trans X5
    clear hx5 X4 E4
    clear CS4 FS4 LS4 CQ4 FQ4 LQ4
    have CS5 := KS5.cell; have FS5 := KS5.frozen; have LS5 := KS5.lt
    have CQ5 := KQ5.cell; have FQ5 := KQ5.frozen; have LQ5 := KQ5.lt
    have CV5 := KV5.cell; have FV5 := KV5.frozen; have LV5 := KV5.lt
    rw [← HH.out, ← HV.out]
    by_cases h20 : ix = 2000
    ·
     skip
     have h21 : (ix == 2000) = true := by simpa using h20
     have H20 := Lib.hid h20; clear h20
     go_wp2_with fail
     go_ret
     exact ⟨by first | rfl | (simp [*]; done), by exact extT⟩
    ·
     skip
     have h21 : (ix == 2000) = false := by simpa using h20
     have e1 : IntKind.i64.wrap (ix + 1) = ix + 1 := by rw [IntKind.wrap_i64]; omega
     have hl : rbOk s ⟨ra, rb, rc, ix + 1⟩ = false := by rw [← HI.out]; exact rb_late
     have HL := Lib.hid hl; clear hl
     go_wp2_with fail
     refine (readBy_k (gs9.ext (by exact extT)) ra rb rc (ix + 1)).mono ?_
     rintro e w6 ⟨rfl, hx6⟩
     have X6 : Ext w1 w6 := Ext.trans (by exact extT) hx6
     have hz6 := hx6.size; (try simp only [szA] at hz6)
     have KS6 : Blk w6 w1.heap.size 65 #[.slice az0 nz0 kz0, .slice az1 nz1 kz1, .int .i64 ix, .int .i64 s.State.Time, .slice az4 nz4 kz4, .slice az5 nz5 kz5, .int .i64 s.State.Lease.Holder, .int .i64 s.State.Lease.Epoch, .int .i64 s.State.Lease.Until, .int .i64 s.Num, .int .i64 s.Last, .int .i64 s.Busy] := Blk.ext (Blk.cast (by exact blkT) setsT) hx6
     clear KS5
     have KQ6 : Blk w6 (w1.heap.size + 1) 67 #[.int .i64 ra, .int .i64 rb, .int .i64 rc, .int .i64 (ix + 1)] := Blk.ext (Blk.cast (by exact blkT) setsT) hx6
     clear KQ5
     have KV6 : Blk w6 w4.heap.size 73 #[.int .i64 ra, .int .i64 rb, .int .i64 ix, .int .i64 0, .int .i64 vn] := Blk.ext (Blk.cast (by exact blkT) setsT) hx6
     clear KV5
     have gs := gs9.ext X6
     have gp := gp9.ext X6
     have E6 : Ext w w6 := E1.trans X6
     clear hx6 X5 E5
     clear CS5 FS5 LS5 CQ5 FQ5 LQ5 CV5 FV5 LV5
     have CS6 := KS6.cell; have FS6 := KS6.frozen; have LS6 := KS6.lt
     have CQ6 := KQ6.cell; have FQ6 := KQ6.frozen; have LQ6 := KQ6.lt
     have CV6 := KV6.cell; have FV6 := KV6.frozen; have LV6 := KV6.lt
     rw [HL.out]
     go_wp2_with fail
     go_ret
     exact ⟨by first | rfl | (simp [*]; done), by exact extT⟩
   ·
    skip
    have y3 := Y2.out; clear Y2; simp only [if_true, if_false, Bool.false_eq_true, reduceIte] at y3
    go_wp2_with fail
    refine (readBy_k (gs9.ext (by exact extT)) ra rb rc ix).mono ?_
    rintro e w4 ⟨rfl, hx4⟩
    have X4 : Ext w1 w4 := Ext.trans (by exact extT) hx4
    have hz4 := hx4.size; (try simp only [szA] at hz4)
    have KS4 : Blk w4 w1.heap.size 65 #[.slice az0 nz0 kz0, .slice az1 nz1 kz1, .int .i64 ix, .int .i64 s.State.Time, .slice az4 nz4 kz4, .slice az5 nz5 kz5, .int .i64 s.State.Lease.Holder, .int .i64 s.State.Lease.Epoch, .int .i64 s.State.Lease.Until, .int .i64 s.Num, .int .i64 s.Last, .int .i64 s.Busy] := Blk.ext (Blk.cast (by exact blkT) setsT) hx4
    clear KS3
    have KQ4 : Blk w4 (w1.heap.size + 1) 67 #[.int .i64 ra, .int .i64 rb, .int .i64 rc, .int .i64 ix] := Blk.ext (Blk.cast (by exact blkT) setsT) hx4
    clear KQ3
    have gs := gs9.ext X4
    have gp := gp9.ext X4
    have E4 : Ext w w4 := E1.trans X4
    clear hx4 X3 E3
    clear CS3 FS3 LS3 CQ3 FQ3 LQ3
    have CS4 := KS4.cell; have FS4 := KS4.frozen; have LS4 := KS4.lt
    have CQ4 := KQ4.cell; have FQ4 := KQ4.frozen; have LQ4 := KQ4.lt
    rw [Y1.out, y3]; (try simp only []); clear y3
    go_wp2_with fail
    refine (sValueAt_c _ _ _ rc (gp9.ext (by exact extT)) HP.out).mono ?_
    rintro e w5 ⟨rfl, hx5⟩
    have X5 : Ext w1 w5 := Ext.trans (by exact extT) hx5
    have hz5 := hx5.size; (try simp only [szA] at hz5)
    have KS5 : Blk w5 w1.heap.size 65 #[.slice az0 nz0 kz0, .slice az1 nz1 kz1, .int .i64 ix, .int .i64 s.State.Time, .slice az4 nz4 kz4, .slice az5 nz5 kz5, .int .i64 s.State.Lease.Holder, .int .i64 s.State.Lease.Epoch, .int .i64 s.State.Lease.Until, .int .i64 s.Num, .int .i64 s.Last, .int .i64 s.Busy] := Blk.ext (Blk.cast (by exact blkT) setsT) hx5
    clear KS4
    have KQ5 : Blk w5 (w1.heap.size + 1) 67 #[.int .i64 ra, .int .i64 rb, .int .i64 rc, .int .i64 ix] := Blk.ext (Blk.cast (by exact blkT) setsT) hx5
    clear KQ4
    have KV5 : Blk w5 w4.heap.size 73 #[.int .i64 ra, .int .i64 rb, .int .i64 ix, .int .i64 1, .int .i64 vn] := Blk.ext (Blk.cast (by exact blkT) setsT) hx5
    have gs := gs9.ext X5
    have gp := gp9.ext X5
    have E5 : Ext w w5 := E1.trans X5
    clear hx5 X4 E4
    clear CS4 FS4 LS4 CQ4 FQ4 LQ4
    have CS5 := KS5.cell; have FS5 := KS5.frozen; have LS5 := KS5.lt
    have CQ5 := KQ5.cell; have FQ5 := KQ5.frozen; have LQ5 := KQ5.lt
    have CV5 := KV5.cell; have FV5 := KV5.frozen; have LV5 := KV5.lt
    rw [← HH.out, ← HV.out]
    by_cases h20 : ix = 2000
    ·
     skip
     have h21 : (ix == 2000) = true := by simpa using h20
     have H20 := Lib.hid h20; clear h20
     go_wp2_with fail
     go_ret
     exact ⟨by first | rfl | (simp [*]; done), by exact extT⟩
    ·
     skip
     have h21 : (ix == 2000) = false := by simpa using h20
     have e1 : IntKind.i64.wrap (ix + 1) = ix + 1 := by rw [IntKind.wrap_i64]; omega
     have hl : rbOk s ⟨ra, rb, rc, ix + 1⟩ = false := by rw [← HI.out]; exact rb_late
     have HL := Lib.hid hl; clear hl
     go_wp2_with fail
     refine (readBy_k (gs9.ext (by exact extT)) ra rb rc (ix + 1)).mono ?_
     rintro e w6 ⟨rfl, hx6⟩
     have X6 : Ext w1 w6 := Ext.trans (by exact extT) hx6
     have hz6 := hx6.size; (try simp only [szA] at hz6)
     have KS6 : Blk w6 w1.heap.size 65 #[.slice az0 nz0 kz0, .slice az1 nz1 kz1, .int .i64 ix, .int .i64 s.State.Time, .slice az4 nz4 kz4, .slice az5 nz5 kz5, .int .i64 s.State.Lease.Holder, .int .i64 s.State.Lease.Epoch, .int .i64 s.State.Lease.Until, .int .i64 s.Num, .int .i64 s.Last, .int .i64 s.Busy] := Blk.ext (Blk.cast (by exact blkT) setsT) hx6
     clear KS5
     have KQ6 : Blk w6 (w1.heap.size + 1) 67 #[.int .i64 ra, .int .i64 rb, .int .i64 rc, .int .i64 (ix + 1)] := Blk.ext (Blk.cast (by exact blkT) setsT) hx6
     clear KQ5
     have KV6 : Blk w6 w4.heap.size 73 #[.int .i64 ra, .int .i64 rb, .int .i64 ix, .int .i64 1, .int .i64 vn] := Blk.ext (Blk.cast (by exact blkT) setsT) hx6
     clear KV5
     have gs := gs9.ext X6
     have gp := gp9.ext X6
     have E6 : Ext w w6 := E1.trans X6
     clear hx6 X5 E5
     clear CS5 FS5 LS5 CQ5 FQ5 LQ5 CV5 FV5 LV5
     have CS6 := KS6.cell; have FS6 := KS6.frozen; have LS6 := KS6.lt
     have CQ6 := KQ6.cell; have FQ6 := KQ6.frozen; have LQ6 := KQ6.lt
     have CV6 := KV6.cell; have FV6 := KV6.frozen; have LV6 := KV6.lt
     rw [HL.out]
     go_wp2_with fail
     go_ret
     exact ⟨by first | rfl | (simp [*]; done), by exact extT⟩

end Go.Proofs.YthihnangjghloaaGreat

-- The statement FnReadAfter: for every input the law returns true.
namespace Go.Proofs.YthihnangjghloaaGreat.fnReadAfter
open Go.ChangeShapes Go.WideShapes Go.ChangeAt Go.RowKit Go.G8
open Go.Proofs.YthihnangjghloaaGreat.facts (b2)

set_option maxRecDepth 100000 in
theorem lifted (os : Os) (started : os.Started) (H : Type) (enc : TypeId × Value → H) :
  ReturnsInHanded {} Tryz.checked os 5 .any (Rows.fnReadAfterSpec.pre6 enc Tryz.prog Tryz.f5 Rows.fnReadAfterRow.domain false) (Rows.fnReadAfterSpec.post enc Tryz.prog Tryz.f5 false true false false) := by
 refine returnsInHanded_of_change (C := Tryz.checked) own started (by kernel_rfl) Tryz.func5
  (ChangeSpec.witness6 (enc := enc) (C := Tryz.checked) false ⟨#[], #[.slice none 0 0], []⟩ 8 (by kernel_rfl) (by kernel_rfl) (by kernel_rfl) (by kernel_rfl)) ?_
 intro W base args ds gs before hval0 hW _ _
 have hval : ∀ (j : Nat) t v, Tryz.f5.params[j]? = some t → args[j]? = some v → Value.okWide Tryz.prog W .any base t v := hval0
 have hW' := hW
 obtain ⟨p, q, hA0, hV, rfl, hfz, hnd⟩ := hW
 have hA : DataW.TrodAll enc Tryz.prog W 0 (fun _ => true) true Tryz.f5.params.toList args.toList ds p := hA0
 rw [Tryz.params5] at hA hval
 obtain ⟨v0, vs0, d0, ds0, p0, q0, hargs, rfl, rfl, h0, r0⟩ := trodAll_cons hA
 obtain ⟨rfl, rfl, rfl⟩ := trodAll_nil r0
 obtain rfl : args = #[v0] := by cases args; simp_all
 obtain ⟨rfl, rfl⟩ := trodVars_none hV
 have k0 := h0
 have lt0 : ∀ x ∈ p0, x.block < W.heap.size := by obtain ⟨m, hm⟩ := k0; exact DataW.trod_lt m _ _ _ hm
 obtain ⟨sa0, sn0, sc0, rfl⟩ := okWide_slice Tryz.underlying22 (hval 0 22 v0 rfl rfl)
 obtain ⟨m0, hm0⟩ := h0
 obtain ⟨s0, e0, g0⟩ := rd_Bytes hm0
 simp [Value.cells] at e0
 subst e0
 clear hA0 hval0
 refine (law_ReadAfter W _ g0).mono fun e W' ⟨he, bel0⟩ => ?_
 have bel : Below W.heap.size W W' := bel0
 subst he
 exact ⟨_, rfl, _, _, _, [], _, [], hW', trodAll_mk1 (shut_bool Tryz.underlying4 _), (trodAll_cons_mk (Below.trod laidOut (by kernel_rfl) (of_decide_eq_true (by kernel_rfl)) k0 bel lt0) trodAll_mk0), rfl, bel.frame _, fun h => by cases h⟩

theorem k0 : (Rows.fnReadAfterRow.wf (OpenSpec.ofChange Rows.fnReadAfterSpec)) = true := by kernel_rfl
theorem k1 : (laidOutB Tryz.checked.prog) = true := facts.k1
theorem k2 : (mapsRowed Tryz.checked.prog) = true := facts.k2
theorem k3 : (Tryz.f5.params.all (Tryz.checked.prog.readableRec ·)) = true := by kernel_rfl
theorem k4 : (namedTie Tryz.checked.prog Rows.fnReadAfterRow.named Rows.fnReadAfterSpec.vars) = true := by kernel_rfl
theorem k5 : ((Rows.fnReadAfterRow.stops == [])) = true := by kernel_rfl
theorem k6 : ((Tryz.checked.prog.stops == [])) = true := facts.k6
theorem k7 : ((Rows.fnReadAfterRow.knobs == [])) = true := by kernel_rfl
theorem k8 : ((Tryz.checked.prog.stopKnobs == [])) = true := facts.k8
theorem k9 : ((Rows.fnReadAfterRow.inPlace == Tryz.checked.prog.inPlace 5)) = true := by kernel_rfl
theorem k10 : ((Rows.fnReadAfterRow.unfollowed == Tryz.checked.prog.unfollowed 5)) = true := by kernel_rfl
theorem k11 : ((Rows.fnReadAfterRow.recurses == Tryz.checked.prog.recurses 5)) = true := by kernel_rfl
theorem k12 : ((Rows.fnReadAfterRow.named == Tryz.checked.prog.varsNamed 5)) = true := by kernel_rfl
theorem k13 : ((Rows.fnReadAfterRow.maps == (Tryz.f5.params.toList ++ Rows.fnReadAfterSpec.plain.varTypes Tryz.checked.prog).any (Tryz.checked.prog.mapsRec ·))) = true := by kernel_rfl
theorem k14 : ((Rows.fnReadAfterRow.ifaces == (Tryz.f5.params.toList ++ Rows.fnReadAfterSpec.plain.varTypes Tryz.checked.prog).any (Tryz.checked.prog.ifacesRec ·))) = true := by kernel_rfl
theorem k15 : ((Rows.fnReadAfterRow.mapsOut == Tryz.checked.prog.mapsAmong Tryz.f5.resultTypes.toList)) = true := by kernel_rfl
theorem k16 : ((Rows.fnReadAfterRow.loops == (Tryz.f5.params.toList ++ Rows.fnReadAfterSpec.plain.varTypes Tryz.checked.prog).any (Tryz.checked.prog.loopsFrom ·))) = true := by kernel_rfl
theorem k17 : ((Rows.fnReadAfterRow.wideKeys == (Tryz.f5.params.toList ++ Rows.fnReadAfterSpec.plain.varTypes Tryz.checked.prog ++ Tryz.f5.resultTypes.toList).any (Tryz.checked.prog.wideKeysFrom ·))) = true := by kernel_rfl
theorem k18 : (Rows.fnReadAfterSpec.vars.all (Tryz.checked.prog.varReadable ·)) = true := by kernel_rfl
theorem k19 : (Tryz.f5.resultTypes.all (fun t => Tryz.checked.prog.readableRec t && decide (t < Tryz.checked.prog.types.size))) = true := by kernel_rfl
theorem k20 : ((Rows.fnReadAfterRow.ifacesOut == Tryz.f5.resultTypes.toList.any (Tryz.checked.prog.ifacesRec ·))) = true := by kernel_rfl
theorem k21 : ((Rows.fnReadAfterRow.loopsOut == Tryz.f5.resultTypes.toList.any (Tryz.checked.prog.loopsFrom ·))) = true := by kernel_rfl
theorem k22 : ((Rows.fnReadAfterRow.plainKeys == Tryz.checked.prog.plainKeys)) = true := facts.k22
theorem k23 : (Rows.fnReadAfterRow.shortTexts.isNone) = true := by kernel_rfl
theorem k24 : (Tryz.checked.prog.stopsHeard) = true := facts.k24
theorem k25 : (Tryz.checked.prog.mayEnter) = true := facts.k25
theorem k26 : ((Rows.fnReadAfterRow.lifted == Tryz.checked.prog.liftsFinal)) = true := facts.k26
theorem k27 : ((Tryz.checked.prog.make == some Rows.fnReadAfterRow.make)) = true := facts.k27
theorem k28 : ((Rows.fnReadAfterRow.kinds == (if Rows.fnReadAfterRow.domain.isEmpty then [] else Tryz.f5.params.toList.map fun t => match Tryz.checked.prog.underlying t with | some (.int k) => some k | _ => none))) = true := by kernel_rfl
theorem k29 : ((Rows.fnReadAfterRow.pinned == Rows.fnReadAfterRow.pinnedBy)) = true := by kernel_rfl
theorem k30 : ((Rows.fnReadAfterRow.veiled == (Tryz.f5.params.toList ++ Rows.fnReadAfterSpec.plain.varTypes Tryz.checked.prog ++ Tryz.f5.resultTypes.toList).any (Tryz.checked.prog.veiledRec ·))) = true := by kernel_rfl
theorem k31 : (Rows.fnReadAfterRow.veiledFits Tryz.checked.prog Tryz.f5.params.toList (Tryz.f5.params.toList ++ Rows.fnReadAfterSpec.plain.varTypes Tryz.checked.prog ++ Tryz.f5.resultTypes.toList)) = true := by kernel_rfl
set_option maxRecDepth 100000 in
theorem closed : joinedFacts Tryz.checked.prog 5 Tryz.f5 Rows.fnReadAfterSpec Rows.fnReadAfterRow = true := by
 unfold joinedFacts
 exact (b2 (b2 (b2 (b2 (b2 (b2 (b2 (b2 (b2 (b2 (b2 (b2 (b2 (b2 (b2 (b2 (b2 (b2 (b2 (b2 (b2 (b2 (b2 (b2 (b2 (b2 (b2 (b2 (b2 (b2 (b2 k0 k1) k2) k3) k4) k5) k6) k7) k8) k9) k10) k11) k12) k13) k14) k15) k16) k17) k18) k19) k20) k21) k22) k23) k24) k25) k26) k27) k28) k29) k30) k31)

theorem proved : Rows.FnReadAfterSaid :=
 OpenClaim.holds_of_wide 5 Tryz.f5 rfl rfl rfl rfl rfl rfl rfl ⟨rfl, rfl, rfl, rfl, rfl⟩ rfl rfl rfl rfl rfl (by as_aux_lemma => kernel_rfl) Tryz.func5 closed
  (of_decide_eq_true (by as_aux_lemma => kernel_rfl)) (by as_aux_lemma => (unfold Func.isWrapper; rw [if_neg (of_decide_eq_false (by kernel_rfl))]; exact ⟨rfl, rfl⟩))
  (fun os started H enc _ => lifted os started H enc)
end Go.Proofs.YthihnangjghloaaGreat.fnReadAfter
