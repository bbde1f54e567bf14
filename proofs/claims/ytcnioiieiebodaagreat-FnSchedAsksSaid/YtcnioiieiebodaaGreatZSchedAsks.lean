/- The statement FnSchedAsks: the walk and the row. -/
import Derived.Test.YtcnioiieiebodaaGreatMa
import Derived.Test.YtcnioiieiebodaaGreatMq
import Derived.Test.YtcnioiieiebodaaGreatNj
import Derived.Test.YtcnioiieiebodaaGreatNi
import Derived.Test.YtcnioiieiebodaaGreatNf
import Derived.Test.YtcnioiieiebodaaGreatNc
import Derived.Test.YtcnioiieiebodaaGreatNh
import Derived.Test.YtcnioiieiebodaaGreatMw
import Derived.Test.YtcnioiieiebodaaGreatMc
set_option linter.unusedSimpArgs false
set_option linter.unusedVariables false
-- The statement's walk: FnSchedAsks.
set_option linter.unusedSimpArgs false
set_option linter.unusedVariables false
namespace Go.Proofs.YtcnioiieiebodaaGreat
open Go.RowKit Go.G8

theorem sends_two {B : Nat} {w : World} {v : Value} {s : DSched} {F : List Nat} (h : OwMsgs B w v (sendsL s) F) (hq : askByB s = true) : ∃ a k, v = .slice a 2 k := by
 obtain ⟨ss, h, -⟩ := h
 obtain ⟨a, cap, e, -⟩ := h.len
 unfold askByB at hq
 simp only [Bool.and_eq_true] at hq
 rw [sends_busy hq.1 hq.2] at e
 exact ⟨a, cap, e⟩
set_option maxHeartbeats 400000000 in
set_option maxRecDepth 100000 in
theorem law_SchedAsks (w : World) (v : Value) (h : Bytes w v) : Calls Tryz.prog 4 #[v] w (RetV w (.bool true)) := by
 obtain ⟨bs, hbs, hbo⟩ := h
 obtain ⟨a, n, k, rfl⟩ := hbs.shape
 have HB : Bytes w (.slice a n k) := ⟨bs, hbs, hbo⟩
 clear hbs hbo
 have E0 : Ext w w := Ext.refl _
 go_enter Tryz.func4, Tryz.ntmps4
 go_wp2_with fail
 refine (big_c _ a n k).mono ?_
 rintro e9 w9 ⟨rfl, rfl⟩
 by_cases hbig : (4096 : Int) < (n : Int)
 ·
  go_wp2_with fail
  go_ret
  exact ⟨rfl, by exact extT⟩
 go_wp2_with fail
 refine (drawDecided_c (HB.ext (by exact extT))).mono ?_
 rintro e w1 ⟨_, rfl, hx1, s, x, now, rfl, gs⟩
 have X1 : Ext w w1 := Ext.trans (by exact extT) hx1
 have hz1 := X1.size
 have hy1 := hx1.size; (try simp only [szA] at hy1)
 have HB := HB.ext X1
 have E1 : Ext w w1 := E0.trans X1
 clear hx1 X1
 clear HB
 obtain ⟨ac, nc, kc, rfl⟩ := gs.shape
 have hv := gs.view
 obtain ⟨T, hT⟩ : ∃ T, T = decided s now := ⟨_, rfl⟩
 have HT := Lib.hid hT
 clear hT
 go_wp2_with fail
 refine (sDecided_k (gs.ext (by exact extT)) now).mono ?_
 rintro e w2 ⟨_, rfl, hx2, Fw, gw0⟩
 have X2 : Ext w1 w2 := Ext.trans (by exact extT) hx2
 have hz2 := X2.size
 have hy2 := hx2.size; (try simp only [szA] at hy2)
 have KS2 : Blk w2 w1.heap.size 32 #[.int .i64 s.Id, .int .i64 s.Seq, .int .i64 s.View.Jobs.Index, .int .i64 s.View.Jobs.Time, .int .i64 s.View.Jobs.Holder, .int .i64 s.View.Jobs.Epoch, .int .i64 s.View.Jobs.Until, .slice ac nc kc, .bool s.Busy, .int .i64 s.Op.Kind, .int .i64 s.Op.A, .int .i64 s.Op.B, .int .i64 s.Op.C, .int .i64 s.Op.D, .int .i64 s.Index] := Blk.ext (Blk.cast (by exact blkT) setsT) hx2
 have gs := gs.ext X2
 have hv := hv.ext X2
 have E2 : Ext w w2 := E1.trans X2
 clear hx2 X2 E1
 have CS2 := KS2.cell; have FS2 := KS2.frozen; have LS2 := KS2.lt
 rw [← HT.out] at gw0
 have gw := gw0.rd; clear gw0
 obtain ⟨aw, nw, kw, rfl⟩ := gw.shape
 go_wp2_with fail
 refine (decided_k (gs.ext (by exact extT)) now).mono ?_
 rintro e w3 ⟨_, rfl, hx3, Fn, gn0⟩
 have X3 : Ext w2 w3 := Ext.trans (by exact extT) hx3
 have hz3 := X3.size
 have hy3 := hx3.size; (try simp only [szA] at hy3)
 have KS3 : Blk w3 w1.heap.size 32 #[.int .i64 s.Id, .int .i64 s.Seq, .int .i64 s.View.Jobs.Index, .int .i64 s.View.Jobs.Time, .int .i64 s.View.Jobs.Holder, .int .i64 s.View.Jobs.Epoch, .int .i64 s.View.Jobs.Until, .slice ac nc kc, .bool s.Busy, .int .i64 s.Op.Kind, .int .i64 s.Op.A, .int .i64 s.Op.B, .int .i64 s.Op.C, .int .i64 s.Op.D, .int .i64 s.Index] := Blk.ext (Blk.cast (by exact blkT) setsT) hx3
 clear KS2
 have KW3 : Blk w3 w2.heap.size 32 #[.int .i64 T.Id, .int .i64 T.Seq, .int .i64 T.View.Jobs.Index, .int .i64 T.View.Jobs.Time, .int .i64 T.View.Jobs.Holder, .int .i64 T.View.Jobs.Epoch, .int .i64 T.View.Jobs.Until, .slice aw nw kw, .bool T.Busy, .int .i64 T.Op.Kind, .int .i64 T.Op.A, .int .i64 T.Op.B, .int .i64 T.Op.C, .int .i64 T.Op.D, .int .i64 T.Index] := Blk.ext (Blk.cast (by exact blkT) setsT) hx3
 have gs := gs.ext X3
 have hv := hv.ext X3
 have gw := gw.ext X3
 have E3 : Ext w w3 := E2.trans X3
 clear hx3 X3 E2
 clear CS2 FS2 LS2
 have CS3 := KS3.cell; have FS3 := KS3.frozen; have LS3 := KS3.lt
 have CW3 := KW3.cell; have FW3 := KW3.frozen; have LW3 := KW3.lt
 rw [← HT.out] at gn0
 have gn := gn0.rd; clear gn0
 obtain ⟨an, nn, kn, rfl⟩ := gn.shape
 as_aux_lemma =>
  go_wp2_with fail
  refine (sSchedOk_k (gs.ext (by exact extT))).mono ?_
  rintro e w4 ⟨rfl, hx4⟩
  have X4 : Ext w3 w4 := Ext.trans (by exact extT) hx4
  have hz4 := X4.size
  have hy4 := hx4.size; (try simp only [szA] at hy4)
  have KS4 : Blk w4 w1.heap.size 32 #[.int .i64 s.Id, .int .i64 s.Seq, .int .i64 s.View.Jobs.Index, .int .i64 s.View.Jobs.Time, .int .i64 s.View.Jobs.Holder, .int .i64 s.View.Jobs.Epoch, .int .i64 s.View.Jobs.Until, .slice ac nc kc, .bool s.Busy, .int .i64 s.Op.Kind, .int .i64 s.Op.A, .int .i64 s.Op.B, .int .i64 s.Op.C, .int .i64 s.Op.D, .int .i64 s.Index] := Blk.ext (Blk.cast (by exact blkT) setsT) hx4
  clear KS3
  have KW4 : Blk w4 w2.heap.size 32 #[.int .i64 T.Id, .int .i64 T.Seq, .int .i64 T.View.Jobs.Index, .int .i64 T.View.Jobs.Time, .int .i64 T.View.Jobs.Holder, .int .i64 T.View.Jobs.Epoch, .int .i64 T.View.Jobs.Until, .slice aw nw kw, .bool T.Busy, .int .i64 T.Op.Kind, .int .i64 T.Op.A, .int .i64 T.Op.B, .int .i64 T.Op.C, .int .i64 T.Op.D, .int .i64 T.Index] := Blk.ext (Blk.cast (by exact blkT) setsT) hx4
  clear KW3
  have KN4 : Blk w4 w3.heap.size 32 #[.int .i64 T.Id, .int .i64 T.Seq, .int .i64 T.View.Jobs.Index, .int .i64 T.View.Jobs.Time, .int .i64 T.View.Jobs.Holder, .int .i64 T.View.Jobs.Epoch, .int .i64 T.View.Jobs.Until, .slice an nn kn, .bool T.Busy, .int .i64 T.Op.Kind, .int .i64 T.Op.A, .int .i64 T.Op.B, .int .i64 T.Op.C, .int .i64 T.Op.D, .int .i64 T.Index] := Blk.ext (Blk.cast (by exact blkT) setsT) hx4
  have gs := gs.ext X4
  have hv := hv.ext X4
  have gw := gw.ext X4
  have gn := gn.ext X4
  have E4 : Ext w w4 := E3.trans X4
  clear hx4 X4 E3
  clear CS3 FS3 LS3 CW3 FW3 LW3
  have CS4 := KS4.cell; have FS4 := KS4.frozen; have LS4 := KS4.lt
  have CW4 := KW4.cell; have FW4 := KW4.frozen; have LW4 := KW4.lt
  have CN4 := KN4.cell; have FN4 := KN4.frozen; have LN4 := KN4.lt
  as_aux_lemma =>
   cases hb : schedOkS s
   ·
    skip
    have y1 : schedOkS T = false := by rw [HT.out, dec_bad hb]; exact zSched_no
    clear hb
    go_wp2_with fail
    refine (schedOk_kS (gn.ext (by exact extT))).mono ?_
    rintro e w5 ⟨rfl, hx5⟩
    have X5 : Ext w4 w5 := Ext.trans (by exact extT) hx5
    have hz5 := X5.size
    have hy5 := hx5.size; (try simp only [szA] at hy5)
    have KS5 : Blk w5 w1.heap.size 32 #[.int .i64 s.Id, .int .i64 s.Seq, .int .i64 s.View.Jobs.Index, .int .i64 s.View.Jobs.Time, .int .i64 s.View.Jobs.Holder, .int .i64 s.View.Jobs.Epoch, .int .i64 s.View.Jobs.Until, .slice ac nc kc, .bool s.Busy, .int .i64 s.Op.Kind, .int .i64 s.Op.A, .int .i64 s.Op.B, .int .i64 s.Op.C, .int .i64 s.Op.D, .int .i64 s.Index] := Blk.ext (Blk.cast (by exact blkT) setsT) hx5
    clear KS4
    have KW5 : Blk w5 w2.heap.size 32 #[.int .i64 T.Id, .int .i64 T.Seq, .int .i64 T.View.Jobs.Index, .int .i64 T.View.Jobs.Time, .int .i64 T.View.Jobs.Holder, .int .i64 T.View.Jobs.Epoch, .int .i64 T.View.Jobs.Until, .slice aw nw kw, .bool T.Busy, .int .i64 T.Op.Kind, .int .i64 T.Op.A, .int .i64 T.Op.B, .int .i64 T.Op.C, .int .i64 T.Op.D, .int .i64 T.Index] := Blk.ext (Blk.cast (by exact blkT) setsT) hx5
    clear KW4
    have KN5 : Blk w5 w3.heap.size 32 #[.int .i64 T.Id, .int .i64 T.Seq, .int .i64 T.View.Jobs.Index, .int .i64 T.View.Jobs.Time, .int .i64 T.View.Jobs.Holder, .int .i64 T.View.Jobs.Epoch, .int .i64 T.View.Jobs.Until, .slice an nn kn, .bool T.Busy, .int .i64 T.Op.Kind, .int .i64 T.Op.A, .int .i64 T.Op.B, .int .i64 T.Op.C, .int .i64 T.Op.D, .int .i64 T.Index] := Blk.ext (Blk.cast (by exact blkT) setsT) hx5
    clear KN4
    have gs := gs.ext X5
    have hv := hv.ext X5
    have gw := gw.ext X5
    have gn := gn.ext X5
    have E5 : Ext w w5 := E4.trans X5
    clear hx5 X5 E4
    clear CS4 FS4 LS4 CW4 FW4 LW4 CN4 FN4 LN4
    have CS5 := KS5.cell; have FS5 := KS5.frozen; have LS5 := KS5.lt
    have CW5 := KW5.cell; have FW5 := KW5.frozen; have LW5 := KW5.lt
    have CN5 := KN5.cell; have FN5 := KN5.frozen; have LN5 := KN5.lt
    rw [y1]
    go_wp2_with fail
    go_ret
    exact ⟨by first | rfl | (simp [*]; done), by exact extT⟩
   ·
    skip
    have HOK := Lib.hid hb; clear hb
    have e_S : (T.Seq != T.Seq) = false := by simp
    have e_B : (T.Busy != T.Busy) = false := by simp
    have ya : decided T now = T := by rw [HT.out]; exact dec_again HOK.out
    have YA := Lib.hid ya; clear ya
    as_aux_lemma =>
     go_wp2_with fail
     refine (decided_k (gn.ext (by exact extT)) now).mono ?_
     rintro e w5 ⟨_, rfl, hx5, FA, ga0⟩
     have X5 : Ext w4 w5 := Ext.trans (by exact extT) hx5
     have hz5 := X5.size
     have hy5 := hx5.size; (try simp only [szA] at hy5)
     have KS5 : Blk w5 w1.heap.size 32 #[.int .i64 s.Id, .int .i64 s.Seq, .int .i64 s.View.Jobs.Index, .int .i64 s.View.Jobs.Time, .int .i64 s.View.Jobs.Holder, .int .i64 s.View.Jobs.Epoch, .int .i64 s.View.Jobs.Until, .slice ac nc kc, .bool s.Busy, .int .i64 s.Op.Kind, .int .i64 s.Op.A, .int .i64 s.Op.B, .int .i64 s.Op.C, .int .i64 s.Op.D, .int .i64 s.Index] := Blk.ext (Blk.cast (by exact blkT) setsT) hx5
     clear KS4
     have KW5 : Blk w5 w2.heap.size 32 #[.int .i64 T.Id, .int .i64 T.Seq, .int .i64 T.View.Jobs.Index, .int .i64 T.View.Jobs.Time, .int .i64 T.View.Jobs.Holder, .int .i64 T.View.Jobs.Epoch, .int .i64 T.View.Jobs.Until, .slice aw nw kw, .bool T.Busy, .int .i64 T.Op.Kind, .int .i64 T.Op.A, .int .i64 T.Op.B, .int .i64 T.Op.C, .int .i64 T.Op.D, .int .i64 T.Index] := Blk.ext (Blk.cast (by exact blkT) setsT) hx5
     clear KW4
     have KN5 : Blk w5 w3.heap.size 32 #[.int .i64 T.Id, .int .i64 T.Seq, .int .i64 T.View.Jobs.Index, .int .i64 T.View.Jobs.Time, .int .i64 T.View.Jobs.Holder, .int .i64 T.View.Jobs.Epoch, .int .i64 T.View.Jobs.Until, .slice an nn kn, .bool T.Busy, .int .i64 T.Op.Kind, .int .i64 T.Op.A, .int .i64 T.Op.B, .int .i64 T.Op.C, .int .i64 T.Op.D, .int .i64 T.Index] := Blk.ext (Blk.cast (by exact blkT) setsT) hx5
     clear KN4
     have gs := gs.ext X5
     have hv := hv.ext X5
     have gw := gw.ext X5
     have gn := gn.ext X5
     have E5 : Ext w w5 := E4.trans X5
     clear hx5 X5 E4
     clear CS4 FS4 LS4 CW4 FW4 LW4 CN4 FN4 LN4
     have CS5 := KS5.cell; have FS5 := KS5.frozen; have LS5 := KS5.lt
     have CW5 := KW5.cell; have FW5 := KW5.frozen; have LW5 := KW5.lt
     have CN5 := KN5.cell; have FN5 := KN5.frozen; have LN5 := KN5.lt
     rw [YA.out] at ga0
     have ga := ga0.rd; clear ga0
     obtain ⟨aa, na, ka, rfl⟩ := ga.shape
     have hq0 := schedOkS_seq HOK.out
     as_aux_lemma =>
      cases ho : nextOp s now with
      | none =>
       have y2 : T = s := HT.out.trans (dec_same HOK.out ho)
       have y3 : (T.Seq == s.Seq) = true := by rw [y2]; simp
       have y4 : (T.Busy == s.Busy) = true := by rw [y2]; simp
       have y5 : T.Op = s.Op := by rw [y2]
       clear y2 ho
       go_wp2_with fail
       go_ret
       exact ⟨by first | rfl | (simp [*]; done), by exact extT⟩
      | some o =>
       obtain ⟨q1, q2, q3⟩ := no_inv ho
       obtain ⟨q4, q5⟩ := asks_some HOK.out ho
       have y2 : T = ⟨s.Id, s.Seq + 1, s.View, true, o, s.Index⟩ := HT.out.trans (dec_some HOK.out ho)
       rw [← HT.out] at q4 q5
       have y3 : (T.Seq == s.Seq) = false := beq_eq_false_iff_ne.2 (by rw [y2]; show s.Seq + 1 ≠ s.Seq; omega)
       have e1 : IntKind.i64.wrap (s.Seq + 1) = s.Seq + 1 := by rw [IntKind.wrap_i64]; omega
       have y6 : (s.Seq + 1 != s.Seq + 1) = false := by simp
       have y7 : (s.Id != s.Id) = false := by simp
       have H1 := Lib.hid q1; have H4 := Lib.hid q4; have H5 := Lib.hid q5; have Y2 := Lib.hid y2; clear q1 q4 q5 y2 q2
       as_aux_lemma =>
        go_wp2_with fail
        refine (askBy_k (gn.ext (by exact extT))).mono ?_
        rintro e w6 ⟨rfl, hx6⟩
        have X6 : Ext w5 w6 := Ext.trans (by exact extT) hx6
        have hz6 := X6.size
        have hy6 := hx6.size; (try simp only [szA] at hy6)
        have KS6 : Blk w6 w1.heap.size 32 #[.int .i64 s.Id, .int .i64 s.Seq, .int .i64 s.View.Jobs.Index, .int .i64 s.View.Jobs.Time, .int .i64 s.View.Jobs.Holder, .int .i64 s.View.Jobs.Epoch, .int .i64 s.View.Jobs.Until, .slice ac nc kc, .bool s.Busy, .int .i64 s.Op.Kind, .int .i64 s.Op.A, .int .i64 s.Op.B, .int .i64 s.Op.C, .int .i64 s.Op.D, .int .i64 s.Index] := Blk.ext (Blk.cast (by exact blkT) setsT) hx6
        clear KS5
        have KW6 : Blk w6 w2.heap.size 32 #[.int .i64 T.Id, .int .i64 T.Seq, .int .i64 T.View.Jobs.Index, .int .i64 T.View.Jobs.Time, .int .i64 T.View.Jobs.Holder, .int .i64 T.View.Jobs.Epoch, .int .i64 T.View.Jobs.Until, .slice aw nw kw, .bool T.Busy, .int .i64 T.Op.Kind, .int .i64 T.Op.A, .int .i64 T.Op.B, .int .i64 T.Op.C, .int .i64 T.Op.D, .int .i64 T.Index] := Blk.ext (Blk.cast (by exact blkT) setsT) hx6
        clear KW5
        have KN6 : Blk w6 w3.heap.size 32 #[.int .i64 T.Id, .int .i64 T.Seq, .int .i64 T.View.Jobs.Index, .int .i64 T.View.Jobs.Time, .int .i64 T.View.Jobs.Holder, .int .i64 T.View.Jobs.Epoch, .int .i64 T.View.Jobs.Until, .slice an nn kn, .bool T.Busy, .int .i64 T.Op.Kind, .int .i64 T.Op.A, .int .i64 T.Op.B, .int .i64 T.Op.C, .int .i64 T.Op.D, .int .i64 T.Index] := Blk.ext (Blk.cast (by exact blkT) setsT) hx6
        clear KN5
        have KB6 : Blk w6 w5.heap.size 32 #[.int .i64 T.Id, .int .i64 T.Seq, .int .i64 T.View.Jobs.Index, .int .i64 T.View.Jobs.Time, .int .i64 T.View.Jobs.Holder, .int .i64 T.View.Jobs.Epoch, .int .i64 T.View.Jobs.Until, .slice aa na ka, .bool T.Busy, .int .i64 T.Op.Kind, .int .i64 T.Op.A, .int .i64 T.Op.B, .int .i64 T.Op.C, .int .i64 T.Op.D, .int .i64 T.Index] := Blk.ext (Blk.cast (by exact blkT) setsT) hx6
        have gs := gs.ext X6
        have hv := hv.ext X6
        have gw := gw.ext X6
        have gn := gn.ext X6
        have ga := ga.ext X6
        have E6 : Ext w w6 := E5.trans X6
        clear hx6 X6 E5
        clear CS5 FS5 LS5 CW5 FW5 LW5 CN5 FN5 LN5
        have CS6 := KS6.cell; have FS6 := KS6.frozen; have LS6 := KS6.lt
        have CW6 := KW6.cell; have FW6 := KW6.frozen; have LW6 := KW6.lt
        have CN6 := KN6.cell; have FN6 := KN6.frozen; have LN6 := KN6.lt
        have CB6 := KB6.cell; have FB6 := KB6.frozen; have LB6 := KB6.lt
        rw [H4.out, H5.out]; (try simp only [])
        have q1 := H1.out
        as_aux_lemma =>
         go_wp2_with fail
         refine (sendsOf_k (gn.ext (by exact extT))).mono ?_
         rintro e w7 ⟨_, rfl, hx7, FS, gm⟩
         have X7 : Ext w6 w7 := Ext.trans (by exact extT) hx7
         have hz7 := X7.size
         have hy7 := hx7.size; (try simp only [szA] at hy7)
         have KS7 : Blk w7 w1.heap.size 32 #[.int .i64 s.Id, .int .i64 s.Seq, .int .i64 s.View.Jobs.Index, .int .i64 s.View.Jobs.Time, .int .i64 s.View.Jobs.Holder, .int .i64 s.View.Jobs.Epoch, .int .i64 s.View.Jobs.Until, .slice ac nc kc, .bool s.Busy, .int .i64 s.Op.Kind, .int .i64 s.Op.A, .int .i64 s.Op.B, .int .i64 s.Op.C, .int .i64 s.Op.D, .int .i64 s.Index] := Blk.ext (Blk.cast (by exact blkT) setsT) hx7
         clear KS6
         have KW7 : Blk w7 w2.heap.size 32 #[.int .i64 T.Id, .int .i64 T.Seq, .int .i64 T.View.Jobs.Index, .int .i64 T.View.Jobs.Time, .int .i64 T.View.Jobs.Holder, .int .i64 T.View.Jobs.Epoch, .int .i64 T.View.Jobs.Until, .slice aw nw kw, .bool T.Busy, .int .i64 T.Op.Kind, .int .i64 T.Op.A, .int .i64 T.Op.B, .int .i64 T.Op.C, .int .i64 T.Op.D, .int .i64 T.Index] := Blk.ext (Blk.cast (by exact blkT) setsT) hx7
         clear KW6
         have KN7 : Blk w7 w3.heap.size 32 #[.int .i64 T.Id, .int .i64 T.Seq, .int .i64 T.View.Jobs.Index, .int .i64 T.View.Jobs.Time, .int .i64 T.View.Jobs.Holder, .int .i64 T.View.Jobs.Epoch, .int .i64 T.View.Jobs.Until, .slice an nn kn, .bool T.Busy, .int .i64 T.Op.Kind, .int .i64 T.Op.A, .int .i64 T.Op.B, .int .i64 T.Op.C, .int .i64 T.Op.D, .int .i64 T.Index] := Blk.ext (Blk.cast (by exact blkT) setsT) hx7
         clear KN6
         have KB7 : Blk w7 w5.heap.size 32 #[.int .i64 T.Id, .int .i64 T.Seq, .int .i64 T.View.Jobs.Index, .int .i64 T.View.Jobs.Time, .int .i64 T.View.Jobs.Holder, .int .i64 T.View.Jobs.Epoch, .int .i64 T.View.Jobs.Until, .slice aa na ka, .bool T.Busy, .int .i64 T.Op.Kind, .int .i64 T.Op.A, .int .i64 T.Op.B, .int .i64 T.Op.C, .int .i64 T.Op.D, .int .i64 T.Index] := Blk.ext (Blk.cast (by exact blkT) setsT) hx7
         clear KB6
         have KK7 : Blk w7 w6.heap.size 45 #[.int .i64 s.Id, .int .i64 (s.Seq + 1), .int .i64 o.Kind, .int .i64 o.A, .int .i64 o.B, .int .i64 o.C, .int .i64 o.D] := Blk.ext (Blk.cast (by exact blkT) setsT) hx7
         have gs := gs.ext X7
         have hv := hv.ext X7
         have gw := gw.ext X7
         have gn := gn.ext X7
         have ga := ga.ext X7
         have E7 : Ext w w7 := E6.trans X7
         clear hx7 X7 E6
         clear CS6 FS6 LS6 CW6 FW6 LW6 CN6 FN6 LN6 CB6 FB6 LB6
         have CS7 := KS7.cell; have FS7 := KS7.frozen; have LS7 := KS7.lt
         have CW7 := KW7.cell; have FW7 := KW7.frozen; have LW7 := KW7.lt
         have CN7 := KN7.cell; have FN7 := KN7.frozen; have LN7 := KN7.lt
         have CB7 := KB7.cell; have FB7 := KB7.frozen; have LB7 := KB7.lt
         have CK7 := KK7.cell; have FK7 := KK7.frozen; have LK7 := KK7.lt
         obtain ⟨am, km, rfl⟩ := sends_two gm H4.out
         as_aux_lemma =>
          rcases q3 with ⟨ho, hf⟩ | ⟨ho, hn, hh⟩
          ·
           skip
           have o1 : o.Kind = 5 := by rw [ho]
           have o2 : o.A = 20 := by rw [ho]
           have o3 : o.B = 0 := by rw [ho]
           have o4 : o.C = 0 := by rw [ho]
           have o5 : o.D = 0 := by rw [ho]
           clear ho
           go_wp2_with fail
           refine (freeIn_c _ s.View _ now (hv.ext (by exact extT))).mono ?_
           rintro e w8 ⟨rfl, hx8⟩
           have X8 : Ext w7 w8 := Ext.trans (by exact extT) hx8
           have hz8 := X8.size
           have hy8 := hx8.size; (try simp only [szA] at hy8)
           have KS8 : Blk w8 w1.heap.size 32 #[.int .i64 s.Id, .int .i64 s.Seq, .int .i64 s.View.Jobs.Index, .int .i64 s.View.Jobs.Time, .int .i64 s.View.Jobs.Holder, .int .i64 s.View.Jobs.Epoch, .int .i64 s.View.Jobs.Until, .slice ac nc kc, .bool s.Busy, .int .i64 s.Op.Kind, .int .i64 s.Op.A, .int .i64 s.Op.B, .int .i64 s.Op.C, .int .i64 s.Op.D, .int .i64 s.Index] := Blk.ext (Blk.cast (by exact blkT) setsT) hx8
           clear KS7
           have KW8 : Blk w8 w2.heap.size 32 #[.int .i64 T.Id, .int .i64 T.Seq, .int .i64 T.View.Jobs.Index, .int .i64 T.View.Jobs.Time, .int .i64 T.View.Jobs.Holder, .int .i64 T.View.Jobs.Epoch, .int .i64 T.View.Jobs.Until, .slice aw nw kw, .bool T.Busy, .int .i64 T.Op.Kind, .int .i64 T.Op.A, .int .i64 T.Op.B, .int .i64 T.Op.C, .int .i64 T.Op.D, .int .i64 T.Index] := Blk.ext (Blk.cast (by exact blkT) setsT) hx8
           clear KW7
           have KN8 : Blk w8 w3.heap.size 32 #[.int .i64 T.Id, .int .i64 T.Seq, .int .i64 T.View.Jobs.Index, .int .i64 T.View.Jobs.Time, .int .i64 T.View.Jobs.Holder, .int .i64 T.View.Jobs.Epoch, .int .i64 T.View.Jobs.Until, .slice an nn kn, .bool T.Busy, .int .i64 T.Op.Kind, .int .i64 T.Op.A, .int .i64 T.Op.B, .int .i64 T.Op.C, .int .i64 T.Op.D, .int .i64 T.Index] := Blk.ext (Blk.cast (by exact blkT) setsT) hx8
           clear KN7
           have KB8 : Blk w8 w5.heap.size 32 #[.int .i64 T.Id, .int .i64 T.Seq, .int .i64 T.View.Jobs.Index, .int .i64 T.View.Jobs.Time, .int .i64 T.View.Jobs.Holder, .int .i64 T.View.Jobs.Epoch, .int .i64 T.View.Jobs.Until, .slice aa na ka, .bool T.Busy, .int .i64 T.Op.Kind, .int .i64 T.Op.A, .int .i64 T.Op.B, .int .i64 T.Op.C, .int .i64 T.Op.D, .int .i64 T.Index] := Blk.ext (Blk.cast (by exact blkT) setsT) hx8
           clear KB7
           have KK8 : Blk w8 w6.heap.size 45 #[.int .i64 s.Id, .int .i64 (s.Seq + 1), .int .i64 o.Kind, .int .i64 o.A, .int .i64 o.B, .int .i64 o.C, .int .i64 o.D] := Blk.ext (Blk.cast (by exact blkT) setsT) hx8
           clear KK7
           have gs := gs.ext X8
           have hv := hv.ext X8
           have gw := gw.ext X8
           have gn := gn.ext X8
           have ga := ga.ext X8
           have E8 : Ext w w8 := E7.trans X8
           clear hx8 X8 E7
           clear CS7 FS7 LS7 CW7 FW7 LW7 CN7 FN7 LN7 CB7 FB7 LB7 CK7 FK7 LK7
           have CS8 := KS8.cell; have FS8 := KS8.frozen; have LS8 := KS8.lt
           have CW8 := KW8.cell; have FW8 := KW8.frozen; have LW8 := KW8.lt
           have CN8 := KN8.cell; have FN8 := KN8.frozen; have LN8 := KN8.lt
           have CB8 := KB8.cell; have FB8 := KB8.frozen; have LB8 := KB8.lt
           have CK8 := KK8.cell; have FK8 := KK8.frozen; have LK8 := KK8.lt
           rw [hf]
           go_wp2_with fail
           go_ret
           exact ⟨by first | rfl | (simp [*]; done), by exact extT⟩
          ·
           skip
           have o1 : o.Kind = 4 := by rw [ho]
           have o2 : o.A = nfId s.View now := by rw [ho]
           have o3 : o.B = s.View.Jobs.Epoch := by rw [ho]
           have o4 : o.C = 0 := by rw [ho]
           have o5 : o.D = 0 := by rw [ho]
           clear ho
           obtain ⟨fi, hfi⟩ : ∃ x, nfId s.View now = x := ⟨_, rfl⟩
           go_wp2_with fail
           refine (nextFire_c _ s.View _ now (hv.ext (by exact extT))).mono ?_
           rintro e w8 ⟨rfl, hx8⟩
           have X8 : Ext w7 w8 := Ext.trans (by exact extT) hx8
           have hz8 := X8.size
           have hy8 := hx8.size; (try simp only [szA] at hy8)
           have KS8 : Blk w8 w1.heap.size 32 #[.int .i64 s.Id, .int .i64 s.Seq, .int .i64 s.View.Jobs.Index, .int .i64 s.View.Jobs.Time, .int .i64 s.View.Jobs.Holder, .int .i64 s.View.Jobs.Epoch, .int .i64 s.View.Jobs.Until, .slice ac nc kc, .bool s.Busy, .int .i64 s.Op.Kind, .int .i64 s.Op.A, .int .i64 s.Op.B, .int .i64 s.Op.C, .int .i64 s.Op.D, .int .i64 s.Index] := Blk.ext (Blk.cast (by exact blkT) setsT) hx8
           clear KS7
           have KW8 : Blk w8 w2.heap.size 32 #[.int .i64 T.Id, .int .i64 T.Seq, .int .i64 T.View.Jobs.Index, .int .i64 T.View.Jobs.Time, .int .i64 T.View.Jobs.Holder, .int .i64 T.View.Jobs.Epoch, .int .i64 T.View.Jobs.Until, .slice aw nw kw, .bool T.Busy, .int .i64 T.Op.Kind, .int .i64 T.Op.A, .int .i64 T.Op.B, .int .i64 T.Op.C, .int .i64 T.Op.D, .int .i64 T.Index] := Blk.ext (Blk.cast (by exact blkT) setsT) hx8
           clear KW7
           have KN8 : Blk w8 w3.heap.size 32 #[.int .i64 T.Id, .int .i64 T.Seq, .int .i64 T.View.Jobs.Index, .int .i64 T.View.Jobs.Time, .int .i64 T.View.Jobs.Holder, .int .i64 T.View.Jobs.Epoch, .int .i64 T.View.Jobs.Until, .slice an nn kn, .bool T.Busy, .int .i64 T.Op.Kind, .int .i64 T.Op.A, .int .i64 T.Op.B, .int .i64 T.Op.C, .int .i64 T.Op.D, .int .i64 T.Index] := Blk.ext (Blk.cast (by exact blkT) setsT) hx8
           clear KN7
           have KB8 : Blk w8 w5.heap.size 32 #[.int .i64 T.Id, .int .i64 T.Seq, .int .i64 T.View.Jobs.Index, .int .i64 T.View.Jobs.Time, .int .i64 T.View.Jobs.Holder, .int .i64 T.View.Jobs.Epoch, .int .i64 T.View.Jobs.Until, .slice aa na ka, .bool T.Busy, .int .i64 T.Op.Kind, .int .i64 T.Op.A, .int .i64 T.Op.B, .int .i64 T.Op.C, .int .i64 T.Op.D, .int .i64 T.Index] := Blk.ext (Blk.cast (by exact blkT) setsT) hx8
           clear KB7
           have KK8 : Blk w8 w6.heap.size 45 #[.int .i64 s.Id, .int .i64 (s.Seq + 1), .int .i64 o.Kind, .int .i64 o.A, .int .i64 o.B, .int .i64 o.C, .int .i64 o.D] := Blk.ext (Blk.cast (by exact blkT) setsT) hx8
           clear KK7
           have gs := gs.ext X8
           have hv := hv.ext X8
           have gw := gw.ext X8
           have gn := gn.ext X8
           have ga := ga.ext X8
           have E8 : Ext w w8 := E7.trans X8
           clear hx8 X8 E7
           clear CS7 FS7 LS7 CW7 FW7 LW7 CN7 FN7 LN7 CB7 FB7 LB7 CK7 FK7 LK7
           have CS8 := KS8.cell; have FS8 := KS8.frozen; have LS8 := KS8.lt
           have CW8 := KW8.cell; have FW8 := KW8.frozen; have LW8 := KW8.lt
           have CN8 := KN8.cell; have FN8 := KN8.frozen; have LN8 := KN8.lt
           have CB8 := KB8.cell; have FB8 := KB8.frozen; have LB8 := KB8.lt
           have CK8 := KK8.cell; have FK8 := KK8.frozen; have LK8 := KK8.lt
           rw [show (dueIds s.View.Jobs.Open (guessOf s.View now)).headD 0 = nfId s.View now from rfl, show decide (0 < (dueIds s.View.Jobs.Open (guessOf s.View now)).length) = nfOk s.View now from rfl, hn]
           have e2 : (nfId s.View now == nfId s.View now) = true := by simp
           have e3 : (s.View.Jobs.Epoch == s.View.Jobs.Epoch) = true := by simp
           clear hfi
           go_wp2_with fail
           refine (holdsIn_c _ s.View _ s.Id now (hv.ext (by exact extT))).mono ?_
           rintro e w9 ⟨rfl, hx9⟩
           have X9 : Ext w8 w9 := Ext.trans (by exact extT) hx9
           have hz9 := X9.size
           have hy9 := hx9.size; (try simp only [szA] at hy9)
           have KS9 : Blk w9 w1.heap.size 32 #[.int .i64 s.Id, .int .i64 s.Seq, .int .i64 s.View.Jobs.Index, .int .i64 s.View.Jobs.Time, .int .i64 s.View.Jobs.Holder, .int .i64 s.View.Jobs.Epoch, .int .i64 s.View.Jobs.Until, .slice ac nc kc, .bool s.Busy, .int .i64 s.Op.Kind, .int .i64 s.Op.A, .int .i64 s.Op.B, .int .i64 s.Op.C, .int .i64 s.Op.D, .int .i64 s.Index] := Blk.ext (Blk.cast (by exact blkT) setsT) hx9
           clear KS8
           have KW9 : Blk w9 w2.heap.size 32 #[.int .i64 T.Id, .int .i64 T.Seq, .int .i64 T.View.Jobs.Index, .int .i64 T.View.Jobs.Time, .int .i64 T.View.Jobs.Holder, .int .i64 T.View.Jobs.Epoch, .int .i64 T.View.Jobs.Until, .slice aw nw kw, .bool T.Busy, .int .i64 T.Op.Kind, .int .i64 T.Op.A, .int .i64 T.Op.B, .int .i64 T.Op.C, .int .i64 T.Op.D, .int .i64 T.Index] := Blk.ext (Blk.cast (by exact blkT) setsT) hx9
           clear KW8
           have KN9 : Blk w9 w3.heap.size 32 #[.int .i64 T.Id, .int .i64 T.Seq, .int .i64 T.View.Jobs.Index, .int .i64 T.View.Jobs.Time, .int .i64 T.View.Jobs.Holder, .int .i64 T.View.Jobs.Epoch, .int .i64 T.View.Jobs.Until, .slice an nn kn, .bool T.Busy, .int .i64 T.Op.Kind, .int .i64 T.Op.A, .int .i64 T.Op.B, .int .i64 T.Op.C, .int .i64 T.Op.D, .int .i64 T.Index] := Blk.ext (Blk.cast (by exact blkT) setsT) hx9
           clear KN8
           have KB9 : Blk w9 w5.heap.size 32 #[.int .i64 T.Id, .int .i64 T.Seq, .int .i64 T.View.Jobs.Index, .int .i64 T.View.Jobs.Time, .int .i64 T.View.Jobs.Holder, .int .i64 T.View.Jobs.Epoch, .int .i64 T.View.Jobs.Until, .slice aa na ka, .bool T.Busy, .int .i64 T.Op.Kind, .int .i64 T.Op.A, .int .i64 T.Op.B, .int .i64 T.Op.C, .int .i64 T.Op.D, .int .i64 T.Index] := Blk.ext (Blk.cast (by exact blkT) setsT) hx9
           clear KB8
           have KK9 : Blk w9 w6.heap.size 45 #[.int .i64 s.Id, .int .i64 (s.Seq + 1), .int .i64 o.Kind, .int .i64 o.A, .int .i64 o.B, .int .i64 o.C, .int .i64 o.D] := Blk.ext (Blk.cast (by exact blkT) setsT) hx9
           clear KK8
           have gs := gs.ext X9
           have hv := hv.ext X9
           have gw := gw.ext X9
           have gn := gn.ext X9
           have ga := ga.ext X9
           have E9 : Ext w w9 := E8.trans X9
           clear hx9 X9 E8
           clear CS8 FS8 LS8 CW8 FW8 LW8 CN8 FN8 LN8 CB8 FB8 LB8 CK8 FK8 LK8
           have CS9 := KS9.cell; have FS9 := KS9.frozen; have LS9 := KS9.lt
           have CW9 := KW9.cell; have FW9 := KW9.frozen; have LW9 := KW9.lt
           have CN9 := KN9.cell; have FN9 := KN9.frozen; have LN9 := KN9.lt
           have CB9 := KB9.cell; have FB9 := KB9.frozen; have LB9 := KB9.lt
           have CK9 := KK9.cell; have FK9 := KK9.frozen; have LK9 := KK9.lt
           rw [hh]
           go_wp2_with fail
           go_ret
           exact ⟨by first | rfl | (simp [*]; done), by exact extT⟩

end Go.Proofs.YtcnioiieiebodaaGreat

-- The statement FnSchedAsks: for every input the law returns true.
namespace Go.Proofs.YtcnioiieiebodaaGreat.fnSchedAsks
open Go.ChangeShapes Go.WideShapes Go.ChangeAt Go.RowKit Go.G8
open Go.Proofs.YtcnioiieiebodaaGreat.facts (b2)

set_option maxRecDepth 100000 in
theorem lifted (os : Os) (started : os.Started) (H : Type) (enc : TypeId × Value → H) :
  ReturnsInHanded {} Tryz.checked os 4 .any (Rows.fnSchedAsksSpec.pre6 enc Tryz.prog Tryz.f4 Rows.fnSchedAsksRow.domain false) (Rows.fnSchedAsksSpec.post enc Tryz.prog Tryz.f4 false true false false) := by
 refine returnsInHanded_of_change (C := Tryz.checked) own started (by kernel_rfl) Tryz.func4
  (ChangeSpec.witness6 (enc := enc) (C := Tryz.checked) false ⟨#[], #[.slice none 0 0], []⟩ 8 (by kernel_rfl) (by kernel_rfl) (by kernel_rfl) (by kernel_rfl)) ?_
 intro W base args ds gs before hval0 hW _ _
 have hval : ∀ (j : Nat) t v, Tryz.f4.params[j]? = some t → args[j]? = some v → Value.okWide Tryz.prog W .any base t v := hval0
 have hW' := hW
 obtain ⟨p, q, hA0, hV, rfl, hfz, hnd⟩ := hW
 have hA : DataW.TrodAll enc Tryz.prog W 0 (fun _ => true) true Tryz.f4.params.toList args.toList ds p := hA0
 rw [Tryz.params4] at hA hval
 obtain ⟨v0, vs0, d0, ds0, p0, q0, hargs, rfl, rfl, h0, r0⟩ := trodAll_cons hA
 obtain ⟨rfl, rfl, rfl⟩ := trodAll_nil r0
 obtain rfl : args = #[v0] := by cases args; simp_all
 obtain ⟨rfl, rfl⟩ := trodVars_none hV
 have k0 := h0
 have lt0 : ∀ x ∈ p0, x.block < W.heap.size := by obtain ⟨m, hm⟩ := k0; exact DataW.trod_lt m _ _ _ hm
 obtain ⟨sa0, sn0, sc0, rfl⟩ := okWide_slice Tryz.underlying22 (hval 0 22 v0 rfl rfl)
 obtain ⟨m0, hm0⟩ := h0
 obtain ⟨s0, e0, g0⟩ := rd_Bytes hm0
 simp [Value.cells] at e0
 subst e0
 clear hA0 hval0
 refine (law_SchedAsks W _ g0).mono fun e W' ⟨he, bel0⟩ => ?_
 have bel : Below W.heap.size W W' := bel0
 subst he
 exact ⟨_, rfl, _, _, _, [], _, [], hW', trodAll_mk1 (shut_bool Tryz.underlying4 _), (trodAll_cons_mk (Below.trod laidOut (by kernel_rfl) (of_decide_eq_true (by kernel_rfl)) k0 bel lt0) trodAll_mk0), rfl, bel.frame _, fun h => by cases h⟩

theorem k0 : (Rows.fnSchedAsksRow.wf (OpenSpec.ofChange Rows.fnSchedAsksSpec)) = true := by kernel_rfl
theorem k1 : (laidOutB Tryz.checked.prog) = true := facts.k1
theorem k2 : (mapsRowed Tryz.checked.prog) = true := facts.k2
theorem k3 : (Tryz.f4.params.all (Tryz.checked.prog.readableRec ·)) = true := by kernel_rfl
theorem k4 : (namedTie Tryz.checked.prog Rows.fnSchedAsksRow.named Rows.fnSchedAsksSpec.vars) = true := by kernel_rfl
theorem k5 : ((Rows.fnSchedAsksRow.stops == [])) = true := by kernel_rfl
theorem k6 : ((Tryz.checked.prog.stops == [])) = true := facts.k6
theorem k7 : ((Rows.fnSchedAsksRow.knobs == [])) = true := by kernel_rfl
theorem k8 : ((Tryz.checked.prog.stopKnobs == [])) = true := facts.k8
theorem k9 : ((Rows.fnSchedAsksRow.inPlace == Tryz.checked.prog.inPlace 4)) = true := by kernel_rfl
theorem k10 : ((Rows.fnSchedAsksRow.unfollowed == Tryz.checked.prog.unfollowed 4)) = true := by kernel_rfl
theorem k11 : ((Rows.fnSchedAsksRow.recurses == Tryz.checked.prog.recurses 4)) = true := by kernel_rfl
theorem k12 : ((Rows.fnSchedAsksRow.named == Tryz.checked.prog.varsNamed 4)) = true := by kernel_rfl
theorem k13 : ((Rows.fnSchedAsksRow.maps == (Tryz.f4.params.toList ++ Rows.fnSchedAsksSpec.plain.varTypes Tryz.checked.prog).any (Tryz.checked.prog.mapsRec ·))) = true := by kernel_rfl
theorem k14 : ((Rows.fnSchedAsksRow.ifaces == (Tryz.f4.params.toList ++ Rows.fnSchedAsksSpec.plain.varTypes Tryz.checked.prog).any (Tryz.checked.prog.ifacesRec ·))) = true := by kernel_rfl
theorem k15 : ((Rows.fnSchedAsksRow.mapsOut == Tryz.checked.prog.mapsAmong Tryz.f4.resultTypes.toList)) = true := by kernel_rfl
theorem k16 : ((Rows.fnSchedAsksRow.loops == (Tryz.f4.params.toList ++ Rows.fnSchedAsksSpec.plain.varTypes Tryz.checked.prog).any (Tryz.checked.prog.loopsFrom ·))) = true := by kernel_rfl
theorem k17 : ((Rows.fnSchedAsksRow.wideKeys == (Tryz.f4.params.toList ++ Rows.fnSchedAsksSpec.plain.varTypes Tryz.checked.prog ++ Tryz.f4.resultTypes.toList).any (Tryz.checked.prog.wideKeysFrom ·))) = true := by kernel_rfl
theorem k18 : (Rows.fnSchedAsksSpec.vars.all (Tryz.checked.prog.varReadable ·)) = true := by kernel_rfl
theorem k19 : (Tryz.f4.resultTypes.all (fun t => Tryz.checked.prog.readableRec t && decide (t < Tryz.checked.prog.types.size))) = true := by kernel_rfl
theorem k20 : ((Rows.fnSchedAsksRow.ifacesOut == Tryz.f4.resultTypes.toList.any (Tryz.checked.prog.ifacesRec ·))) = true := by kernel_rfl
theorem k21 : ((Rows.fnSchedAsksRow.loopsOut == Tryz.f4.resultTypes.toList.any (Tryz.checked.prog.loopsFrom ·))) = true := by kernel_rfl
theorem k22 : ((Rows.fnSchedAsksRow.plainKeys == Tryz.checked.prog.plainKeys)) = true := facts.k22
theorem k23 : (Rows.fnSchedAsksRow.shortTexts.isNone) = true := by kernel_rfl
theorem k24 : (Tryz.checked.prog.stopsHeard) = true := facts.k24
theorem k25 : (Tryz.checked.prog.mayEnter) = true := facts.k25
theorem k26 : ((Rows.fnSchedAsksRow.lifted == Tryz.checked.prog.liftsFinal)) = true := facts.k26
theorem k27 : ((Tryz.checked.prog.make == some Rows.fnSchedAsksRow.make)) = true := facts.k27
theorem k28 : ((Rows.fnSchedAsksRow.kinds == (if Rows.fnSchedAsksRow.domain.isEmpty then [] else Tryz.f4.params.toList.map fun t => match Tryz.checked.prog.underlying t with | some (.int k) => some k | _ => none))) = true := by kernel_rfl
theorem k29 : ((Rows.fnSchedAsksRow.pinned == Rows.fnSchedAsksRow.pinnedBy)) = true := by kernel_rfl
theorem k30 : ((Rows.fnSchedAsksRow.veiled == (Tryz.f4.params.toList ++ Rows.fnSchedAsksSpec.plain.varTypes Tryz.checked.prog ++ Tryz.f4.resultTypes.toList).any (Tryz.checked.prog.veiledRec ·))) = true := by kernel_rfl
theorem k31 : (Rows.fnSchedAsksRow.veiledFits Tryz.checked.prog Tryz.f4.params.toList (Tryz.f4.params.toList ++ Rows.fnSchedAsksSpec.plain.varTypes Tryz.checked.prog ++ Tryz.f4.resultTypes.toList)) = true := by kernel_rfl
set_option maxRecDepth 100000 in
theorem closed : joinedFacts Tryz.checked.prog 4 Tryz.f4 Rows.fnSchedAsksSpec Rows.fnSchedAsksRow = true := by
 unfold joinedFacts
 exact (b2 (b2 (b2 (b2 (b2 (b2 (b2 (b2 (b2 (b2 (b2 (b2 (b2 (b2 (b2 (b2 (b2 (b2 (b2 (b2 (b2 (b2 (b2 (b2 (b2 (b2 (b2 (b2 (b2 (b2 (b2 k0 k1) k2) k3) k4) k5) k6) k7) k8) k9) k10) k11) k12) k13) k14) k15) k16) k17) k18) k19) k20) k21) k22) k23) k24) k25) k26) k27) k28) k29) k30) k31)

theorem proved : Rows.FnSchedAsksSaid :=
 OpenClaim.holds_of_wide 4 Tryz.f4 rfl rfl rfl rfl rfl rfl rfl ⟨rfl, rfl, rfl, rfl, rfl⟩ rfl rfl rfl rfl rfl (by as_aux_lemma => kernel_rfl) Tryz.func4 closed
  (of_decide_eq_true (by as_aux_lemma => kernel_rfl)) (by as_aux_lemma => (unfold Func.isWrapper; rw [if_neg (of_decide_eq_false (by kernel_rfl))]; exact ⟨rfl, rfl⟩))
  (fun os started H enc _ => lifted os started H enc)
end Go.Proofs.YtcnioiieiebodaaGreat.fnSchedAsks
