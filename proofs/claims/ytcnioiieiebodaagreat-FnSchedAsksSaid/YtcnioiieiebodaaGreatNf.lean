/- Contracts and plain laws: DEd DEi. -/
import Derived.Test.YtcnioiieiebodaaGreatMa
import Derived.Test.YtcnioiieiebodaaGreatNa
set_option linter.unusedSimpArgs false
set_option linter.unusedVariables false
-- What a scheduler decides (the program).
set_option linter.unusedSimpArgs false
set_option linter.unusedVariables false
namespace Go.Proofs.YtcnioiieiebodaaGreat
open Go.RowKit Go.G8

set_option maxHeartbeats 4000000 in
set_option maxRecDepth 100000 in
theorem decide_k_time {w : World} {v : Value} {s : DSched} (h : RdSched w v s) {now : Int} (hb : schedOkS s = true) (ht : timeOk now = false) : Calls Tryz.prog 55 #[v, .int .i64 now] w (RetV w (decV s now)) := by
 obtain ⟨a7, n7, k7, rfl⟩ := h.shape
 obtain ⟨bz, hbz⟩ : ∃ b : Bool, s.Busy = b := ⟨_, rfl⟩
 rw [hbz] at h ⊢
 have HB := Lib.hid hbz; clear hbz
 have hv := h.view
 have hq0 := schedOkS_seq hb
 have hb0 := hb; have Hb := Lib.hid hb; clear hb
 have ht0 := ht; have Ht := Lib.hid ht; clear ht
 have E0 : Ext w w := Ext.refl _
 go_enter Tryz.func55, Tryz.ntmps55
 clear hb0
 go_wp2_with fail
 refine (timeOk_c _ now).mono ?_
 rintro e9 w9 ⟨rfl, rfl⟩
 rw [ht0]; clear ht0
 go_wp2_with fail
 go_ret
 refine ⟨?_, by exact extT⟩
 rw [decV_none (no_head (.inl Ht.out))]
 first | rfl | (simp [*]; done)
set_option maxHeartbeats 4000000 in
set_option maxRecDepth 100000 in
theorem decide_k_busy {w : World} {v : Value} {s : DSched} (h : RdSched w v s) {now : Int} (hb : schedOkS s = true) (ht : timeOk now = true) (hbz : s.Busy = true) : Calls Tryz.prog 55 #[v, .int .i64 now] w (RetV w (decV s now)) := by
 obtain ⟨a7, n7, k7, rfl⟩ := h.shape
 rw [hbz] at h ⊢
 have HB := Lib.hid hbz; clear hbz
 have hv := h.view
 have hq0 := schedOkS_seq hb
 have hb0 := hb; have Hb := Lib.hid hb; clear hb
 have ht0 := ht; have Ht := Lib.hid ht; clear ht
 have E0 : Ext w w := Ext.refl _
 go_enter Tryz.func55, Tryz.ntmps55
 clear hb0
 go_wp2_with fail
 refine (timeOk_c _ now).mono ?_
 rintro e9 w9 ⟨rfl, rfl⟩
 rw [ht0]; clear ht0
 go_wp2_with fail
 go_ret
 refine ⟨?_, by exact extT⟩
 rw [decV_none (no_head (.inr (.inl HB.out)))]
 first | rfl | (simp [*]; done)
set_option maxHeartbeats 4000000 in
set_option maxRecDepth 100000 in
theorem decide_k_seq {w : World} {v : Value} {s : DSched} (h : RdSched w v s) {now : Int} (hb : schedOkS s = true) (ht : timeOk now = true) (hbz : s.Busy = false) (hq : s.Seq = 2000) : Calls Tryz.prog 55 #[v, .int .i64 now] w (RetV w (decV s now)) := by
 obtain ⟨a7, n7, k7, rfl⟩ := h.shape
 rw [hbz] at h ⊢
 have HB := Lib.hid hbz; clear hbz
 have hv := h.view
 have hq0 := schedOkS_seq hb
 have hb0 := hb; have Hb := Lib.hid hb; clear hb
 have ht0 := ht; have Ht := Lib.hid ht; clear ht
 have hq1 : (2000 : Int) ≤ s.Seq := by omega
 have hq2 : (s.Seq == 2000) = true := by simpa using hq
 have HQ := Lib.hid hq; clear hq
 have E0 : Ext w w := Ext.refl _
 go_enter Tryz.func55, Tryz.ntmps55
 clear hb0
 go_wp2_with fail
 refine (timeOk_c _ now).mono ?_
 rintro e9 w9 ⟨rfl, rfl⟩
 rw [ht0]; clear ht0
 go_wp2_with fail
 go_ret
 refine ⟨?_, by exact extT⟩
 rw [decV_none (no_head (.inr (.inr (.inl HQ.out))))]
 first | rfl | (simp [*]; done)
set_option maxHeartbeats 4000000 in
set_option maxRecDepth 100000 in
theorem decide_k_stale {w : World} {v : Value} {s : DSched} (h : RdSched w v s) {now : Int} (hb : schedOkS s = true) (ht : timeOk now = true) (hbz : s.Busy = false) (hq : s.Seq ≠ 2000) (hst : staleIn s.View s.Index = true) : Calls Tryz.prog 55 #[v, .int .i64 now] w (RetV w (decV s now)) := by
 obtain ⟨a7, n7, k7, rfl⟩ := h.shape
 rw [hbz] at h ⊢
 have HB := Lib.hid hbz; clear hbz
 have hv := h.view
 have hq0 := schedOkS_seq hb
 have hb0 := hb; have Hb := Lib.hid hb; clear hb
 have ht0 := ht; have Ht := Lib.hid ht; clear ht
 have hst0 := hst; have Hst := Lib.hid hst; clear hst
 have hq1 : ¬ (2000 : Int) ≤ s.Seq := by omega
 have hq2 : (s.Seq == 2000) = false := by simpa using hq
 have HQ := Lib.hid hq; clear hq
 have E0 : Ext w w := Ext.refl _
 go_enter Tryz.func55, Tryz.ntmps55
 clear hb0
 go_wp2_with fail
 refine (timeOk_c _ now).mono ?_
 rintro e9 w9 ⟨rfl, rfl⟩
 rw [ht0]; clear ht0
 go_wp2_with fail
 refine (staleIn_c _ s.View _ s.Index (hv.ext (by exact extT))).mono ?_
 rintro e w1 ⟨rfl, hx1⟩
 have X1 : Ext w w1 := Ext.trans (by exact extT) hx1
 have hz1 := X1.size
 have hy1 := hx1.size; (try simp only [szA] at hy1)
 have KS1 : Blk w1 w.heap.size 32 #[.int .i64 s.Id, .int .i64 s.Seq, .int .i64 s.View.Jobs.Index, .int .i64 s.View.Jobs.Time, .int .i64 s.View.Jobs.Holder, .int .i64 s.View.Jobs.Epoch, .int .i64 s.View.Jobs.Until, .slice a7 n7 k7, .bool false, .int .i64 s.Op.Kind, .int .i64 s.Op.A, .int .i64 s.Op.B, .int .i64 s.Op.C, .int .i64 s.Op.D, .int .i64 s.Index] := Blk.ext (Blk.cast (by exact blkT) setsT) hx1
 have E1 : Ext w w1 := E0.trans X1
 clear hx1 X1
 have CS1 := KS1.cell; have FS1 := KS1.frozen; have LS1 := KS1.lt
 rw [hst0]; clear hst0
 go_wp2_with fail
 go_ret
 refine ⟨?_, by exact extT⟩
 rw [decV_none (no_head (.inr (.inr (.inr Hst.out))))]
 first | rfl | (simp [*]; done)
set_option maxHeartbeats 4000000 in
set_option maxRecDepth 100000 in
theorem decide_k_fire {w : World} {v : Value} {s : DSched} (h : RdSched w v s) {now : Int} (hb : schedOkS s = true) (ht : timeOk now = true) (hbz : s.Busy = false) (hq : s.Seq ≠ 2000) (hst : staleIn s.View s.Index = false) (hh : holdsIn s.View s.Id now = true) (hn : nfOk s.View now = true) : Calls Tryz.prog 55 #[v, .int .i64 now] w (RetV w (decV s now)) := by
 obtain ⟨a7, n7, k7, rfl⟩ := h.shape
 rw [hbz] at h ⊢
 have HB := Lib.hid hbz; clear hbz
 have hv := h.view
 have hq0 := schedOkS_seq hb
 have hf := holds_free hb hh
 have hb0 := hb; have Hb := Lib.hid hb; clear hb
 have ht0 := ht; have Ht := Lib.hid ht; clear ht
 have hst0 := hst; have Hst := Lib.hid hst; clear hst
 have hh0 := hh; have Hh := Lib.hid hh; clear hh
 have hn0 := hn; have Hn := Lib.hid hn; clear hn
 have hf0 := hf; have Hf := Lib.hid hf; clear hf
 have hq1 : ¬ (2000 : Int) ≤ s.Seq := by omega
 have hq2 : (s.Seq == 2000) = false := by simpa using hq
 have HQ := Lib.hid hq; clear hq
 have E0 : Ext w w := Ext.refl _
 go_enter Tryz.func55, Tryz.ntmps55
 clear hb0
 go_wp2_with fail
 refine (timeOk_c _ now).mono ?_
 rintro e9 w9 ⟨rfl, rfl⟩
 rw [ht0]; clear ht0
 go_wp2_with fail
 refine (staleIn_c _ s.View _ s.Index (hv.ext (by exact extT))).mono ?_
 rintro e w1 ⟨rfl, hx1⟩
 have X1 : Ext w w1 := Ext.trans (by exact extT) hx1
 have hz1 := X1.size
 have hy1 := hx1.size; (try simp only [szA] at hy1)
 have KS1 : Blk w1 w.heap.size 32 #[.int .i64 s.Id, .int .i64 s.Seq, .int .i64 s.View.Jobs.Index, .int .i64 s.View.Jobs.Time, .int .i64 s.View.Jobs.Holder, .int .i64 s.View.Jobs.Epoch, .int .i64 s.View.Jobs.Until, .slice a7 n7 k7, .bool false, .int .i64 s.Op.Kind, .int .i64 s.Op.A, .int .i64 s.Op.B, .int .i64 s.Op.C, .int .i64 s.Op.D, .int .i64 s.Index] := Blk.ext (Blk.cast (by exact blkT) setsT) hx1
 have E1 : Ext w w1 := E0.trans X1
 clear hx1 X1
 have CS1 := KS1.cell; have FS1 := KS1.frozen; have LS1 := KS1.lt
 rw [hst0]; clear hst0
 go_wp2_with fail
 refine (holdsIn_c _ s.View _ s.Id now (hv.ext (by exact extT))).mono ?_
 rintro e w2 ⟨rfl, hx2⟩
 have X2 : Ext w1 w2 := Ext.trans (by exact extT) hx2
 have hz2 := X2.size
 have hy2 := hx2.size; (try simp only [szA] at hy2)
 have KS2 : Blk w2 w.heap.size 32 #[.int .i64 s.Id, .int .i64 s.Seq, .int .i64 s.View.Jobs.Index, .int .i64 s.View.Jobs.Time, .int .i64 s.View.Jobs.Holder, .int .i64 s.View.Jobs.Epoch, .int .i64 s.View.Jobs.Until, .slice a7 n7 k7, .bool false, .int .i64 s.Op.Kind, .int .i64 s.Op.A, .int .i64 s.Op.B, .int .i64 s.Op.C, .int .i64 s.Op.D, .int .i64 s.Index] := Blk.ext (Blk.cast (by exact blkT) setsT) hx2
 clear KS1
 have E2 : Ext w w2 := E1.trans X2
 clear hx2 X2 E1
 clear CS1 FS1 LS1
 have CS2 := KS2.cell; have FS2 := KS2.frozen; have LS2 := KS2.lt
 rw [hh0]; clear hh0
 go_wp2_with fail
 refine (nextFire_c _ s.View _ now (hv.ext (by exact extT))).mono ?_
 rintro e w3 ⟨rfl, hx3⟩
 have X3 : Ext w2 w3 := Ext.trans (by exact extT) hx3
 have hz3 := X3.size
 have hy3 := hx3.size; (try simp only [szA] at hy3)
 have KS3 : Blk w3 w.heap.size 32 #[.int .i64 s.Id, .int .i64 s.Seq, .int .i64 s.View.Jobs.Index, .int .i64 s.View.Jobs.Time, .int .i64 s.View.Jobs.Holder, .int .i64 s.View.Jobs.Epoch, .int .i64 s.View.Jobs.Until, .slice a7 n7 k7, .bool false, .int .i64 s.Op.Kind, .int .i64 s.Op.A, .int .i64 s.Op.B, .int .i64 s.Op.C, .int .i64 s.Op.D, .int .i64 s.Index] := Blk.ext (Blk.cast (by exact blkT) setsT) hx3
 clear KS2
 have E3 : Ext w w3 := E2.trans X3
 clear hx3 X3 E2
 clear CS2 FS2 LS2
 have CS3 := KS3.cell; have FS3 := KS3.frozen; have LS3 := KS3.lt
 obtain ⟨fi, hfi⟩ : ∃ x, nfId s.View now = x := ⟨_, rfl⟩
 rw [show (dueIds s.View.Jobs.Open (guessOf s.View now)).headD 0 = nfId s.View now from rfl, show decide (0 < (dueIds s.View.Jobs.Open (guessOf s.View now)).length) = nfOk s.View now from rfl, hn0, hfi]; clear hn0
 have HFI := Lib.hid hfi; clear hfi
 go_wp2_with fail
 go_ret
 refine ⟨?_, by exact extT⟩
 rw [decV_some (no_fire Ht.out HB.out HQ.out Hst.out Hh.out Hn.out), HFI.out]
 first | rfl | (simp [*]; done)
set_option maxHeartbeats 4000000 in
set_option maxRecDepth 100000 in
theorem decide_k_hold {w : World} {v : Value} {s : DSched} (h : RdSched w v s) {now : Int} (hb : schedOkS s = true) (ht : timeOk now = true) (hbz : s.Busy = false) (hq : s.Seq ≠ 2000) (hst : staleIn s.View s.Index = false) (hh : holdsIn s.View s.Id now = true) (hn : nfOk s.View now = false) : Calls Tryz.prog 55 #[v, .int .i64 now] w (RetV w (decV s now)) := by
 obtain ⟨a7, n7, k7, rfl⟩ := h.shape
 rw [hbz] at h ⊢
 have HB := Lib.hid hbz; clear hbz
 have hv := h.view
 have hq0 := schedOkS_seq hb
 have hf := holds_free hb hh
 have hb0 := hb; have Hb := Lib.hid hb; clear hb
 have ht0 := ht; have Ht := Lib.hid ht; clear ht
 have hst0 := hst; have Hst := Lib.hid hst; clear hst
 have hh0 := hh; have Hh := Lib.hid hh; clear hh
 have hn0 := hn; have Hn := Lib.hid hn; clear hn
 have hf0 := hf; have Hf := Lib.hid hf; clear hf
 have hq1 : ¬ (2000 : Int) ≤ s.Seq := by omega
 have hq2 : (s.Seq == 2000) = false := by simpa using hq
 have HQ := Lib.hid hq; clear hq
 have E0 : Ext w w := Ext.refl _
 go_enter Tryz.func55, Tryz.ntmps55
 clear hb0
 go_wp2_with fail
 refine (timeOk_c _ now).mono ?_
 rintro e9 w9 ⟨rfl, rfl⟩
 rw [ht0]; clear ht0
 go_wp2_with fail
 refine (staleIn_c _ s.View _ s.Index (hv.ext (by exact extT))).mono ?_
 rintro e w1 ⟨rfl, hx1⟩
 have X1 : Ext w w1 := Ext.trans (by exact extT) hx1
 have hz1 := X1.size
 have hy1 := hx1.size; (try simp only [szA] at hy1)
 have KS1 : Blk w1 w.heap.size 32 #[.int .i64 s.Id, .int .i64 s.Seq, .int .i64 s.View.Jobs.Index, .int .i64 s.View.Jobs.Time, .int .i64 s.View.Jobs.Holder, .int .i64 s.View.Jobs.Epoch, .int .i64 s.View.Jobs.Until, .slice a7 n7 k7, .bool false, .int .i64 s.Op.Kind, .int .i64 s.Op.A, .int .i64 s.Op.B, .int .i64 s.Op.C, .int .i64 s.Op.D, .int .i64 s.Index] := Blk.ext (Blk.cast (by exact blkT) setsT) hx1
 have E1 : Ext w w1 := E0.trans X1
 clear hx1 X1
 have CS1 := KS1.cell; have FS1 := KS1.frozen; have LS1 := KS1.lt
 rw [hst0]; clear hst0
 go_wp2_with fail
 refine (holdsIn_c _ s.View _ s.Id now (hv.ext (by exact extT))).mono ?_
 rintro e w2 ⟨rfl, hx2⟩
 have X2 : Ext w1 w2 := Ext.trans (by exact extT) hx2
 have hz2 := X2.size
 have hy2 := hx2.size; (try simp only [szA] at hy2)
 have KS2 : Blk w2 w.heap.size 32 #[.int .i64 s.Id, .int .i64 s.Seq, .int .i64 s.View.Jobs.Index, .int .i64 s.View.Jobs.Time, .int .i64 s.View.Jobs.Holder, .int .i64 s.View.Jobs.Epoch, .int .i64 s.View.Jobs.Until, .slice a7 n7 k7, .bool false, .int .i64 s.Op.Kind, .int .i64 s.Op.A, .int .i64 s.Op.B, .int .i64 s.Op.C, .int .i64 s.Op.D, .int .i64 s.Index] := Blk.ext (Blk.cast (by exact blkT) setsT) hx2
 clear KS1
 have E2 : Ext w w2 := E1.trans X2
 clear hx2 X2 E1
 clear CS1 FS1 LS1
 have CS2 := KS2.cell; have FS2 := KS2.frozen; have LS2 := KS2.lt
 rw [hh0]; clear hh0
 go_wp2_with fail
 refine (nextFire_c _ s.View _ now (hv.ext (by exact extT))).mono ?_
 rintro e w3 ⟨rfl, hx3⟩
 have X3 : Ext w2 w3 := Ext.trans (by exact extT) hx3
 have hz3 := X3.size
 have hy3 := hx3.size; (try simp only [szA] at hy3)
 have KS3 : Blk w3 w.heap.size 32 #[.int .i64 s.Id, .int .i64 s.Seq, .int .i64 s.View.Jobs.Index, .int .i64 s.View.Jobs.Time, .int .i64 s.View.Jobs.Holder, .int .i64 s.View.Jobs.Epoch, .int .i64 s.View.Jobs.Until, .slice a7 n7 k7, .bool false, .int .i64 s.Op.Kind, .int .i64 s.Op.A, .int .i64 s.Op.B, .int .i64 s.Op.C, .int .i64 s.Op.D, .int .i64 s.Index] := Blk.ext (Blk.cast (by exact blkT) setsT) hx3
 clear KS2
 have E3 : Ext w w3 := E2.trans X3
 clear hx3 X3 E2
 clear CS2 FS2 LS2
 have CS3 := KS3.cell; have FS3 := KS3.frozen; have LS3 := KS3.lt
 obtain ⟨fi, hfi⟩ : ∃ x, nfId s.View now = x := ⟨_, rfl⟩
 rw [show (dueIds s.View.Jobs.Open (guessOf s.View now)).headD 0 = nfId s.View now from rfl, show decide (0 < (dueIds s.View.Jobs.Open (guessOf s.View now)).length) = nfOk s.View now from rfl, hn0, hfi]; clear hn0
 have HFI := Lib.hid hfi; clear hfi
 go_wp2_with fail
 go_ret
 refine ⟨?_, by exact extT⟩
 rw [decV_none (no_hold Ht.out HB.out HQ.out Hst.out Hh.out Hn.out)]
 first | rfl | (simp [*]; done)
set_option maxHeartbeats 4000000 in
set_option maxRecDepth 100000 in
theorem decide_k_lease {w : World} {v : Value} {s : DSched} (h : RdSched w v s) {now : Int} (hb : schedOkS s = true) (ht : timeOk now = true) (hbz : s.Busy = false) (hq : s.Seq ≠ 2000) (hst : staleIn s.View s.Index = false) (hh : holdsIn s.View s.Id now = false) (hf : freeIn s.View now = true) : Calls Tryz.prog 55 #[v, .int .i64 now] w (RetV w (decV s now)) := by
 obtain ⟨a7, n7, k7, rfl⟩ := h.shape
 rw [hbz] at h ⊢
 have HB := Lib.hid hbz; clear hbz
 have hv := h.view
 have hq0 := schedOkS_seq hb
 have hb0 := hb; have Hb := Lib.hid hb; clear hb
 have ht0 := ht; have Ht := Lib.hid ht; clear ht
 have hst0 := hst; have Hst := Lib.hid hst; clear hst
 have hh0 := hh; have Hh := Lib.hid hh; clear hh
 have hf0 := hf; have Hf := Lib.hid hf; clear hf
 have hq1 : ¬ (2000 : Int) ≤ s.Seq := by omega
 have hq2 : (s.Seq == 2000) = false := by simpa using hq
 have HQ := Lib.hid hq; clear hq
 have E0 : Ext w w := Ext.refl _
 go_enter Tryz.func55, Tryz.ntmps55
 clear hb0
 go_wp2_with fail
 refine (timeOk_c _ now).mono ?_
 rintro e9 w9 ⟨rfl, rfl⟩
 rw [ht0]; clear ht0
 go_wp2_with fail
 refine (staleIn_c _ s.View _ s.Index (hv.ext (by exact extT))).mono ?_
 rintro e w1 ⟨rfl, hx1⟩
 have X1 : Ext w w1 := Ext.trans (by exact extT) hx1
 have hz1 := X1.size
 have hy1 := hx1.size; (try simp only [szA] at hy1)
 have KS1 : Blk w1 w.heap.size 32 #[.int .i64 s.Id, .int .i64 s.Seq, .int .i64 s.View.Jobs.Index, .int .i64 s.View.Jobs.Time, .int .i64 s.View.Jobs.Holder, .int .i64 s.View.Jobs.Epoch, .int .i64 s.View.Jobs.Until, .slice a7 n7 k7, .bool false, .int .i64 s.Op.Kind, .int .i64 s.Op.A, .int .i64 s.Op.B, .int .i64 s.Op.C, .int .i64 s.Op.D, .int .i64 s.Index] := Blk.ext (Blk.cast (by exact blkT) setsT) hx1
 have E1 : Ext w w1 := E0.trans X1
 clear hx1 X1
 have CS1 := KS1.cell; have FS1 := KS1.frozen; have LS1 := KS1.lt
 rw [hst0]; clear hst0
 go_wp2_with fail
 refine (holdsIn_c _ s.View _ s.Id now (hv.ext (by exact extT))).mono ?_
 rintro e w2 ⟨rfl, hx2⟩
 have X2 : Ext w1 w2 := Ext.trans (by exact extT) hx2
 have hz2 := X2.size
 have hy2 := hx2.size; (try simp only [szA] at hy2)
 have KS2 : Blk w2 w.heap.size 32 #[.int .i64 s.Id, .int .i64 s.Seq, .int .i64 s.View.Jobs.Index, .int .i64 s.View.Jobs.Time, .int .i64 s.View.Jobs.Holder, .int .i64 s.View.Jobs.Epoch, .int .i64 s.View.Jobs.Until, .slice a7 n7 k7, .bool false, .int .i64 s.Op.Kind, .int .i64 s.Op.A, .int .i64 s.Op.B, .int .i64 s.Op.C, .int .i64 s.Op.D, .int .i64 s.Index] := Blk.ext (Blk.cast (by exact blkT) setsT) hx2
 clear KS1
 have E2 : Ext w w2 := E1.trans X2
 clear hx2 X2 E1
 clear CS1 FS1 LS1
 have CS2 := KS2.cell; have FS2 := KS2.frozen; have LS2 := KS2.lt
 rw [hh0]; clear hh0
 go_wp2_with fail
 refine (freeIn_c _ s.View _ now (hv.ext (by exact extT))).mono ?_
 rintro e w3 ⟨rfl, hx3⟩
 have X3 : Ext w2 w3 := Ext.trans (by exact extT) hx3
 have hz3 := X3.size
 have hy3 := hx3.size; (try simp only [szA] at hy3)
 have KS3 : Blk w3 w.heap.size 32 #[.int .i64 s.Id, .int .i64 s.Seq, .int .i64 s.View.Jobs.Index, .int .i64 s.View.Jobs.Time, .int .i64 s.View.Jobs.Holder, .int .i64 s.View.Jobs.Epoch, .int .i64 s.View.Jobs.Until, .slice a7 n7 k7, .bool false, .int .i64 s.Op.Kind, .int .i64 s.Op.A, .int .i64 s.Op.B, .int .i64 s.Op.C, .int .i64 s.Op.D, .int .i64 s.Index] := Blk.ext (Blk.cast (by exact blkT) setsT) hx3
 clear KS2
 have E3 : Ext w w3 := E2.trans X3
 clear hx3 X3 E2
 clear CS2 FS2 LS2
 have CS3 := KS3.cell; have FS3 := KS3.frozen; have LS3 := KS3.lt
 rw [hf0]; clear hf0
 go_wp2_with fail
 go_ret
 refine ⟨?_, by exact extT⟩
 rw [decV_some (no_lease Ht.out HB.out HQ.out Hst.out Hh.out Hf.out)]
 first | rfl | (simp [*]; done)
set_option maxHeartbeats 4000000 in
set_option maxRecDepth 100000 in
theorem decide_k_wait {w : World} {v : Value} {s : DSched} (h : RdSched w v s) {now : Int} (hb : schedOkS s = true) (ht : timeOk now = true) (hbz : s.Busy = false) (hq : s.Seq ≠ 2000) (hst : staleIn s.View s.Index = false) (hh : holdsIn s.View s.Id now = false) (hf : freeIn s.View now = false) : Calls Tryz.prog 55 #[v, .int .i64 now] w (RetV w (decV s now)) := by
 obtain ⟨a7, n7, k7, rfl⟩ := h.shape
 rw [hbz] at h ⊢
 have HB := Lib.hid hbz; clear hbz
 have hv := h.view
 have hq0 := schedOkS_seq hb
 have hb0 := hb; have Hb := Lib.hid hb; clear hb
 have ht0 := ht; have Ht := Lib.hid ht; clear ht
 have hst0 := hst; have Hst := Lib.hid hst; clear hst
 have hh0 := hh; have Hh := Lib.hid hh; clear hh
 have hf0 := hf; have Hf := Lib.hid hf; clear hf
 have hq1 : ¬ (2000 : Int) ≤ s.Seq := by omega
 have hq2 : (s.Seq == 2000) = false := by simpa using hq
 have HQ := Lib.hid hq; clear hq
 have E0 : Ext w w := Ext.refl _
 go_enter Tryz.func55, Tryz.ntmps55
 clear hb0
 go_wp2_with fail
 refine (timeOk_c _ now).mono ?_
 rintro e9 w9 ⟨rfl, rfl⟩
 rw [ht0]; clear ht0
 go_wp2_with fail
 refine (staleIn_c _ s.View _ s.Index (hv.ext (by exact extT))).mono ?_
 rintro e w1 ⟨rfl, hx1⟩
 have X1 : Ext w w1 := Ext.trans (by exact extT) hx1
 have hz1 := X1.size
 have hy1 := hx1.size; (try simp only [szA] at hy1)
 have KS1 : Blk w1 w.heap.size 32 #[.int .i64 s.Id, .int .i64 s.Seq, .int .i64 s.View.Jobs.Index, .int .i64 s.View.Jobs.Time, .int .i64 s.View.Jobs.Holder, .int .i64 s.View.Jobs.Epoch, .int .i64 s.View.Jobs.Until, .slice a7 n7 k7, .bool false, .int .i64 s.Op.Kind, .int .i64 s.Op.A, .int .i64 s.Op.B, .int .i64 s.Op.C, .int .i64 s.Op.D, .int .i64 s.Index] := Blk.ext (Blk.cast (by exact blkT) setsT) hx1
 have E1 : Ext w w1 := E0.trans X1
 clear hx1 X1
 have CS1 := KS1.cell; have FS1 := KS1.frozen; have LS1 := KS1.lt
 rw [hst0]; clear hst0
 go_wp2_with fail
 refine (holdsIn_c _ s.View _ s.Id now (hv.ext (by exact extT))).mono ?_
 rintro e w2 ⟨rfl, hx2⟩
 have X2 : Ext w1 w2 := Ext.trans (by exact extT) hx2
 have hz2 := X2.size
 have hy2 := hx2.size; (try simp only [szA] at hy2)
 have KS2 : Blk w2 w.heap.size 32 #[.int .i64 s.Id, .int .i64 s.Seq, .int .i64 s.View.Jobs.Index, .int .i64 s.View.Jobs.Time, .int .i64 s.View.Jobs.Holder, .int .i64 s.View.Jobs.Epoch, .int .i64 s.View.Jobs.Until, .slice a7 n7 k7, .bool false, .int .i64 s.Op.Kind, .int .i64 s.Op.A, .int .i64 s.Op.B, .int .i64 s.Op.C, .int .i64 s.Op.D, .int .i64 s.Index] := Blk.ext (Blk.cast (by exact blkT) setsT) hx2
 clear KS1
 have E2 : Ext w w2 := E1.trans X2
 clear hx2 X2 E1
 clear CS1 FS1 LS1
 have CS2 := KS2.cell; have FS2 := KS2.frozen; have LS2 := KS2.lt
 rw [hh0]; clear hh0
 go_wp2_with fail
 refine (freeIn_c _ s.View _ now (hv.ext (by exact extT))).mono ?_
 rintro e w3 ⟨rfl, hx3⟩
 have X3 : Ext w2 w3 := Ext.trans (by exact extT) hx3
 have hz3 := X3.size
 have hy3 := hx3.size; (try simp only [szA] at hy3)
 have KS3 : Blk w3 w.heap.size 32 #[.int .i64 s.Id, .int .i64 s.Seq, .int .i64 s.View.Jobs.Index, .int .i64 s.View.Jobs.Time, .int .i64 s.View.Jobs.Holder, .int .i64 s.View.Jobs.Epoch, .int .i64 s.View.Jobs.Until, .slice a7 n7 k7, .bool false, .int .i64 s.Op.Kind, .int .i64 s.Op.A, .int .i64 s.Op.B, .int .i64 s.Op.C, .int .i64 s.Op.D, .int .i64 s.Index] := Blk.ext (Blk.cast (by exact blkT) setsT) hx3
 clear KS2
 have E3 : Ext w w3 := E2.trans X3
 clear hx3 X3 E2
 clear CS2 FS2 LS2
 have CS3 := KS3.cell; have FS3 := KS3.frozen; have LS3 := KS3.lt
 rw [hf0]; clear hf0
 go_wp2_with fail
 go_ret
 refine ⟨?_, by exact extT⟩
 rw [decV_none (no_wait Ht.out HB.out HQ.out Hst.out Hh.out Hf.out)]
 first | rfl | (simp [*]; done)
theorem decide_k {w : World} {v : Value} {s : DSched} (h : RdSched w v s) {now : Int} (hb : schedOkS s = true) : Calls Tryz.prog 55 #[v, .int .i64 now] w (RetV w (decV s now)) := by
 cases ht : timeOk now
 ·
  exact decide_k_time h hb ht
 cases hbz : s.Busy
 rotate_left
 ·
  exact decide_k_busy h hb ht hbz
 by_cases hq : s.Seq = 2000
 ·
  exact decide_k_seq h hb ht hbz hq
 cases hst : staleIn s.View s.Index
 rotate_left
 ·
  exact decide_k_stale h hb ht hbz hq hst
 cases hh : holdsIn s.View s.Id now
 ·
  cases hf : freeIn s.View now
  ·
   exact decide_k_wait h hb ht hbz hq hst hh hf
  ·
   exact decide_k_lease h hb ht hbz hq hst hh hf
 ·
  cases hn : nfOk s.View now
  ·
   exact decide_k_hold h hb ht hbz hq hst hh hn
  ·
   exact decide_k_fire h hb ht hbz hq hst hh hn

end Go.Proofs.YtcnioiieiebodaaGreat

-- Decided of the program.
set_option linter.unusedSimpArgs false
set_option linter.unusedVariables false
namespace Go.Proofs.YtcnioiieiebodaaGreat
open Go.RowKit Go.G8

set_option maxHeartbeats 4000000 in
set_option maxRecDepth 100000 in
theorem decided_k_bad {w : World} {v : Value} {s : DSched} (h : RdSched w v s) {now : Int} (hb : schedOkS s = false) : Calls Tryz.prog 16 #[v, .int .i64 now] w (Ret w fun r w' => ∃ F, OwSched w.heap.size w' r (decided s now) F) := by
 obtain ⟨a7, n7, k7, rfl⟩ := h.shape
 obtain ⟨bz, hbz⟩ : ∃ b : Bool, s.Busy = b := ⟨_, rfl⟩
 rw [hbz] at h ⊢
 have HB := Lib.hid hbz; clear hbz
 have hb0 := hb; have Hb := Lib.hid hb; clear hb
 have E0 : Ext w w := Ext.refl _
 go_enter Tryz.func16, Tryz.ntmps16
 go_wp2_with fail
 refine (schedOk_kS (h.ext (by exact extT))).mono ?_
 rintro e w1 ⟨rfl, hx1⟩
 have X1 : Ext w w1 := Ext.trans (by exact extT) hx1
 have hz1 := X1.size
 have hy1 := hx1.size; (try simp only [szA] at hy1)
 have KS1 : Blk w1 w.heap.size 32 #[.int .i64 s.Id, .int .i64 s.Seq, .int .i64 s.View.Jobs.Index, .int .i64 s.View.Jobs.Time, .int .i64 s.View.Jobs.Holder, .int .i64 s.View.Jobs.Epoch, .int .i64 s.View.Jobs.Until, .slice a7 n7 k7, .bool bz, .int .i64 s.Op.Kind, .int .i64 s.Op.A, .int .i64 s.Op.B, .int .i64 s.Op.C, .int .i64 s.Op.D, .int .i64 s.Index] := Blk.ext (Blk.cast (by exact blkT) setsT) hx1
 have KR1 : Blk w1 (w.heap.size + 1) 32 #[.int .i64 0, .int .i64 0, .int .i64 0, .int .i64 0, .int .i64 0, .int .i64 0, .int .i64 0, .slice none 0 0, .bool false, .int .i64 0, .int .i64 0, .int .i64 0, .int .i64 0, .int .i64 0, .int .i64 0] := Blk.ext (Blk.cast (by exact blkT) setsT) hx1
 have E1 : Ext w w1 := E0.trans X1
 clear hx1 X1
 have CS1 := KS1.cell; have FS1 := KS1.frozen; have LS1 := KS1.lt
 have CR1 := KR1.cell; have FR1 := KR1.frozen; have LR1 := KR1.lt
 rw [hb0]
 go_wp2_with fail
 refine bodyPost_ret (by simp [results, Tryz.results16, go_sem, CS1, FS1, LS1, CR1, FR1, LR1]; try rfl) rfl ?_
 have eA : decided s now = zSched := dec_bad Hb.out
 rw [eA]; clear eA
 exact ⟨_, rfl, by exact extT, _, .slice none 0 0, rfl, OwnI.nil _ _ _ _, rfl⟩
set_option maxHeartbeats 4000000 in
set_option maxRecDepth 100000 in
theorem decided_k_none {w : World} {v : Value} {s : DSched} (h : RdSched w v s) {now : Int} (hb : schedOkS s = true) (ho : nextOp s now = none) (hv : decV s now = .iface 125 (.agg #[])) : Calls Tryz.prog 16 #[v, .int .i64 now] w (Ret w fun r w' => ∃ F, OwSched w.heap.size w' r (decided s now) F) := by
 obtain ⟨a7, n7, k7, rfl⟩ := h.shape
 obtain ⟨bz, hbz⟩ : ∃ b : Bool, s.Busy = b := ⟨_, rfl⟩
 rw [hbz] at h ⊢
 have HB := Lib.hid hbz; clear hbz
 have hb0 := hb; have Hb := Lib.hid hb; clear hb
 have Ho := Lib.hid ho; have hv0 := hv; clear ho hv
 have hq0 := schedOkS_seq hb0
 have hw9 : IntKind.i64.wrap (s.Seq + 1) = s.Seq + 1 := by rw [IntKind.wrap_i64]; omega
 have E0 : Ext w w := Ext.refl _
 go_enter Tryz.func16, Tryz.ntmps16
 go_wp2_with fail
 refine (schedOk_kS (h.ext (by exact extT))).mono ?_
 rintro e w1 ⟨rfl, hx1⟩
 have X1 : Ext w w1 := Ext.trans (by exact extT) hx1
 have hz1 := X1.size
 have hy1 := hx1.size; (try simp only [szA] at hy1)
 have KS1 : Blk w1 w.heap.size 32 #[.int .i64 s.Id, .int .i64 s.Seq, .int .i64 s.View.Jobs.Index, .int .i64 s.View.Jobs.Time, .int .i64 s.View.Jobs.Holder, .int .i64 s.View.Jobs.Epoch, .int .i64 s.View.Jobs.Until, .slice a7 n7 k7, .bool bz, .int .i64 s.Op.Kind, .int .i64 s.Op.A, .int .i64 s.Op.B, .int .i64 s.Op.C, .int .i64 s.Op.D, .int .i64 s.Index] := Blk.ext (Blk.cast (by exact blkT) setsT) hx1
 have KR1 : Blk w1 (w.heap.size + 1) 32 #[.int .i64 0, .int .i64 0, .int .i64 0, .int .i64 0, .int .i64 0, .int .i64 0, .int .i64 0, .slice none 0 0, .bool false, .int .i64 0, .int .i64 0, .int .i64 0, .int .i64 0, .int .i64 0, .int .i64 0] := Blk.ext (Blk.cast (by exact blkT) setsT) hx1
 have E1 : Ext w w1 := E0.trans X1
 clear hx1 X1
 have CS1 := KS1.cell; have FS1 := KS1.frozen; have LS1 := KS1.lt
 have CR1 := KR1.cell; have FR1 := KR1.frozen; have LR1 := KR1.lt
 have hl8 := schedOkS_len hb0; have hb1 := Hb.out; rw [hb0]; clear hb0
 go_wp2_with fail
 refine (copySched_k (h.ext (by exact extT)) (by omega)).mono ?_
 rintro e w2 ⟨_, rfl, hx2, FD, gd⟩
 have X2 : Ext w1 w2 := Ext.trans (by exact extT) hx2
 have hz2 := X2.size
 have hy2 := hx2.size; (try simp only [szA] at hy2)
 have KS2 : Blk w2 w.heap.size 32 #[.int .i64 s.Id, .int .i64 s.Seq, .int .i64 s.View.Jobs.Index, .int .i64 s.View.Jobs.Time, .int .i64 s.View.Jobs.Holder, .int .i64 s.View.Jobs.Epoch, .int .i64 s.View.Jobs.Until, .slice a7 n7 k7, .bool bz, .int .i64 s.Op.Kind, .int .i64 s.Op.A, .int .i64 s.Op.B, .int .i64 s.Op.C, .int .i64 s.Op.D, .int .i64 s.Index] := Blk.ext (Blk.cast (by exact blkT) setsT) hx2
 clear KS1
 have KR2 : Blk w2 (w.heap.size + 1) 32 #[.int .i64 0, .int .i64 0, .int .i64 0, .int .i64 0, .int .i64 0, .int .i64 0, .int .i64 0, .slice none 0 0, .bool false, .int .i64 0, .int .i64 0, .int .i64 0, .int .i64 0, .int .i64 0, .int .i64 0] := Blk.ext (Blk.cast (by exact blkT) setsT) hx2
 clear KR1
 have E2 : Ext w w2 := E1.trans X2
 clear hx2 X2 E1
 clear CS1 FS1 LS1 CR1 FR1 LR1
 have CS2 := KS2.cell; have FS2 := KS2.frozen; have LS2 := KS2.lt
 have CR2 := KR2.cell; have FR2 := KR2.frozen; have LR2 := KR2.lt
 obtain ⟨t2, rfl, gO, -⟩ := gd
 obtain ⟨ad, nd, kd, rfl⟩ := gO.shape
 rw [HB.out]
 replace gO := OwnI.mono (B' := w.heap.size) gO (by first | omega | (simp only [szA]; omega))
 go_wp2_with fail
 refine (decide_k (h.ext (by exact extT)) hb1).mono ?_
 rintro e w3 ⟨rfl, hx3⟩
 have X3 : Ext w2 w3 := Ext.trans (by exact extT) hx3
 have hz3 := X3.size
 have hy3 := hx3.size; (try simp only [szA] at hy3)
 have KS3 : Blk w3 w.heap.size 32 #[.int .i64 s.Id, .int .i64 s.Seq, .int .i64 s.View.Jobs.Index, .int .i64 s.View.Jobs.Time, .int .i64 s.View.Jobs.Holder, .int .i64 s.View.Jobs.Epoch, .int .i64 s.View.Jobs.Until, .slice a7 n7 k7, .bool bz, .int .i64 s.Op.Kind, .int .i64 s.Op.A, .int .i64 s.Op.B, .int .i64 s.Op.C, .int .i64 s.Op.D, .int .i64 s.Index] := Blk.ext (Blk.cast (by exact blkT) setsT) hx3
 clear KS2
 have KR3 : Blk w3 (w.heap.size + 1) 32 #[.int .i64 0, .int .i64 0, .int .i64 0, .int .i64 0, .int .i64 0, .int .i64 0, .int .i64 0, .slice none 0 0, .bool false, .int .i64 0, .int .i64 0, .int .i64 0, .int .i64 0, .int .i64 0, .int .i64 0] := Blk.ext (Blk.cast (by exact blkT) setsT) hx3
 clear KR2
 have KO3 : Blk w3 w2.heap.size 32 #[.int .i64 s.Id, .int .i64 s.Seq, .int .i64 s.View.Jobs.Index, .int .i64 s.View.Jobs.Time, .int .i64 s.View.Jobs.Holder, .int .i64 s.View.Jobs.Epoch, .int .i64 s.View.Jobs.Until, .slice ad nd kd, .bool bz, .int .i64 s.Op.Kind, .int .i64 s.Op.A, .int .i64 s.Op.B, .int .i64 s.Op.C, .int .i64 s.Op.D, .int .i64 s.Index] := Blk.ext (Blk.cast (by exact blkT) setsT) hx3
 have gO := gO.ext X3
 have E3 : Ext w w3 := E2.trans X3
 clear hx3 X3 E2
 clear CS2 FS2 LS2 CR2 FR2 LR2
 have CS3 := KS3.cell; have FS3 := KS3.frozen; have LS3 := KS3.lt
 have CR3 := KR3.cell; have FR3 := KR3.frozen; have LR3 := KR3.lt
 have CO3 := KO3.cell; have FO3 := KO3.frozen; have LO3 := KO3.lt
 rw [hv0]; clear hv0 hb1
 have ta1 : ∀ w : World, (Instr.typeAssert (.iface 125 (.agg #[])) 88 91 true).run Tryz.prog w = .ok (.tuple #[.agg #[.int .i64 0, .int .i64 0], .bool false]) w := fun _ => by kernel_rfl
 have ta2 : ∀ w : World, (Instr.typeAssert (.iface 125 (.agg #[])) 88 93 true).run Tryz.prog w = .ok (.tuple #[.agg #[], .bool false]) w := fun _ => by kernel_rfl
 go_wp2_with fail
 refine bodyPost_ret (by simp [results, Tryz.results16, go_sem, CS3, FS3, LS3, CR3, FR3, LR3, CO3, FO3, LO3]; try rfl) rfl ?_
 have eA : decided s now = s := dec_same Hb.out Ho.out
 rw [eA]; clear eA
 exact ⟨_, rfl, by exact extT, _, _, (by first | rfl | (rw [HB.out])), (by exact ownS), rfl⟩
set_option maxHeartbeats 4000000 in
set_option maxRecDepth 100000 in
theorem decided_k_fire {w : World} {v : Value} {s : DSched} (h : RdSched w v s) {now : Int} (hb : schedOkS s = true) {oa ob : Int} (ho : nextOp s now = some ⟨4, oa, ob, 0, 0⟩) (hv : decV s now = .iface 91 (.agg #[.int .i64 oa, .int .i64 ob])) : Calls Tryz.prog 16 #[v, .int .i64 now] w (Ret w fun r w' => ∃ F, OwSched w.heap.size w' r (decided s now) F) := by
 obtain ⟨a7, n7, k7, rfl⟩ := h.shape
 obtain ⟨bz, hbz⟩ : ∃ b : Bool, s.Busy = b := ⟨_, rfl⟩
 rw [hbz] at h ⊢
 have HB := Lib.hid hbz; clear hbz
 have hb0 := hb; have Hb := Lib.hid hb; clear hb
 have Ho := Lib.hid ho; have hv0 := hv; clear ho hv
 have hq0 := schedOkS_seq hb0
 have hw9 : IntKind.i64.wrap (s.Seq + 1) = s.Seq + 1 := by rw [IntKind.wrap_i64]; omega
 have E0 : Ext w w := Ext.refl _
 go_enter Tryz.func16, Tryz.ntmps16
 go_wp2_with fail
 refine (schedOk_kS (h.ext (by exact extT))).mono ?_
 rintro e w1 ⟨rfl, hx1⟩
 have X1 : Ext w w1 := Ext.trans (by exact extT) hx1
 have hz1 := X1.size
 have hy1 := hx1.size; (try simp only [szA] at hy1)
 have KS1 : Blk w1 w.heap.size 32 #[.int .i64 s.Id, .int .i64 s.Seq, .int .i64 s.View.Jobs.Index, .int .i64 s.View.Jobs.Time, .int .i64 s.View.Jobs.Holder, .int .i64 s.View.Jobs.Epoch, .int .i64 s.View.Jobs.Until, .slice a7 n7 k7, .bool bz, .int .i64 s.Op.Kind, .int .i64 s.Op.A, .int .i64 s.Op.B, .int .i64 s.Op.C, .int .i64 s.Op.D, .int .i64 s.Index] := Blk.ext (Blk.cast (by exact blkT) setsT) hx1
 have KR1 : Blk w1 (w.heap.size + 1) 32 #[.int .i64 0, .int .i64 0, .int .i64 0, .int .i64 0, .int .i64 0, .int .i64 0, .int .i64 0, .slice none 0 0, .bool false, .int .i64 0, .int .i64 0, .int .i64 0, .int .i64 0, .int .i64 0, .int .i64 0] := Blk.ext (Blk.cast (by exact blkT) setsT) hx1
 have E1 : Ext w w1 := E0.trans X1
 clear hx1 X1
 have CS1 := KS1.cell; have FS1 := KS1.frozen; have LS1 := KS1.lt
 have CR1 := KR1.cell; have FR1 := KR1.frozen; have LR1 := KR1.lt
 have hl8 := schedOkS_len hb0; have hb1 := Hb.out; rw [hb0]; clear hb0
 go_wp2_with fail
 refine (copySched_k (h.ext (by exact extT)) (by omega)).mono ?_
 rintro e w2 ⟨_, rfl, hx2, FD, gd⟩
 have X2 : Ext w1 w2 := Ext.trans (by exact extT) hx2
 have hz2 := X2.size
 have hy2 := hx2.size; (try simp only [szA] at hy2)
 have KS2 : Blk w2 w.heap.size 32 #[.int .i64 s.Id, .int .i64 s.Seq, .int .i64 s.View.Jobs.Index, .int .i64 s.View.Jobs.Time, .int .i64 s.View.Jobs.Holder, .int .i64 s.View.Jobs.Epoch, .int .i64 s.View.Jobs.Until, .slice a7 n7 k7, .bool bz, .int .i64 s.Op.Kind, .int .i64 s.Op.A, .int .i64 s.Op.B, .int .i64 s.Op.C, .int .i64 s.Op.D, .int .i64 s.Index] := Blk.ext (Blk.cast (by exact blkT) setsT) hx2
 clear KS1
 have KR2 : Blk w2 (w.heap.size + 1) 32 #[.int .i64 0, .int .i64 0, .int .i64 0, .int .i64 0, .int .i64 0, .int .i64 0, .int .i64 0, .slice none 0 0, .bool false, .int .i64 0, .int .i64 0, .int .i64 0, .int .i64 0, .int .i64 0, .int .i64 0] := Blk.ext (Blk.cast (by exact blkT) setsT) hx2
 clear KR1
 have E2 : Ext w w2 := E1.trans X2
 clear hx2 X2 E1
 clear CS1 FS1 LS1 CR1 FR1 LR1
 have CS2 := KS2.cell; have FS2 := KS2.frozen; have LS2 := KS2.lt
 have CR2 := KR2.cell; have FR2 := KR2.frozen; have LR2 := KR2.lt
 obtain ⟨t2, rfl, gO, -⟩ := gd
 obtain ⟨ad, nd, kd, rfl⟩ := gO.shape
 rw [HB.out]
 replace gO := OwnI.mono (B' := w.heap.size) gO (by first | omega | (simp only [szA]; omega))
 go_wp2_with fail
 refine (decide_k (h.ext (by exact extT)) hb1).mono ?_
 rintro e w3 ⟨rfl, hx3⟩
 have X3 : Ext w2 w3 := Ext.trans (by exact extT) hx3
 have hz3 := X3.size
 have hy3 := hx3.size; (try simp only [szA] at hy3)
 have KS3 : Blk w3 w.heap.size 32 #[.int .i64 s.Id, .int .i64 s.Seq, .int .i64 s.View.Jobs.Index, .int .i64 s.View.Jobs.Time, .int .i64 s.View.Jobs.Holder, .int .i64 s.View.Jobs.Epoch, .int .i64 s.View.Jobs.Until, .slice a7 n7 k7, .bool bz, .int .i64 s.Op.Kind, .int .i64 s.Op.A, .int .i64 s.Op.B, .int .i64 s.Op.C, .int .i64 s.Op.D, .int .i64 s.Index] := Blk.ext (Blk.cast (by exact blkT) setsT) hx3
 clear KS2
 have KR3 : Blk w3 (w.heap.size + 1) 32 #[.int .i64 0, .int .i64 0, .int .i64 0, .int .i64 0, .int .i64 0, .int .i64 0, .int .i64 0, .slice none 0 0, .bool false, .int .i64 0, .int .i64 0, .int .i64 0, .int .i64 0, .int .i64 0, .int .i64 0] := Blk.ext (Blk.cast (by exact blkT) setsT) hx3
 clear KR2
 have KO3 : Blk w3 w2.heap.size 32 #[.int .i64 s.Id, .int .i64 s.Seq, .int .i64 s.View.Jobs.Index, .int .i64 s.View.Jobs.Time, .int .i64 s.View.Jobs.Holder, .int .i64 s.View.Jobs.Epoch, .int .i64 s.View.Jobs.Until, .slice ad nd kd, .bool bz, .int .i64 s.Op.Kind, .int .i64 s.Op.A, .int .i64 s.Op.B, .int .i64 s.Op.C, .int .i64 s.Op.D, .int .i64 s.Index] := Blk.ext (Blk.cast (by exact blkT) setsT) hx3
 have gO := gO.ext X3
 have E3 : Ext w w3 := E2.trans X3
 clear hx3 X3 E2
 clear CS2 FS2 LS2 CR2 FR2 LR2
 have CS3 := KS3.cell; have FS3 := KS3.frozen; have LS3 := KS3.lt
 have CR3 := KR3.cell; have FR3 := KR3.frozen; have LR3 := KR3.lt
 have CO3 := KO3.cell; have FO3 := KO3.frozen; have LO3 := KO3.lt
 rw [hv0]; clear hv0 hb1
 have ta1 : ∀ w : World, (Instr.typeAssert (.iface 91 (.agg #[.int .i64 oa, .int .i64 ob])) 88 91 true).run Tryz.prog w = .ok (.tuple #[.agg #[.int .i64 oa, .int .i64 ob], .bool true]) w := fun _ => by kernel_rfl
 go_wp2_with fail
 refine bodyPost_ret (by simp [results, Tryz.results16, go_sem, CS3, FS3, LS3, CR3, FR3, LR3, CO3, FO3, LO3]; try rfl) rfl ?_
 have eA : decided s now = ⟨s.Id, s.Seq + 1, s.View, true, ⟨4, oa, ob, 0, 0⟩, s.Index⟩ := dec_some Hb.out Ho.out
 rw [eA]; clear eA
 exact ⟨_, rfl, by exact extT, _, _, (by first | rfl | (rw [hw9]; rfl)), (by exact ownS), rfl⟩
set_option maxHeartbeats 4000000 in
set_option maxRecDepth 100000 in
theorem decided_k_lease {w : World} {v : Value} {s : DSched} (h : RdSched w v s) {now : Int} (hb : schedOkS s = true) (ho : nextOp s now = some ⟨5, 20, 0, 0, 0⟩) (hv : decV s now = .iface 93 (.agg #[])) : Calls Tryz.prog 16 #[v, .int .i64 now] w (Ret w fun r w' => ∃ F, OwSched w.heap.size w' r (decided s now) F) := by
 obtain ⟨a7, n7, k7, rfl⟩ := h.shape
 obtain ⟨bz, hbz⟩ : ∃ b : Bool, s.Busy = b := ⟨_, rfl⟩
 rw [hbz] at h ⊢
 have HB := Lib.hid hbz; clear hbz
 have hb0 := hb; have Hb := Lib.hid hb; clear hb
 have Ho := Lib.hid ho; have hv0 := hv; clear ho hv
 have hq0 := schedOkS_seq hb0
 have hw9 : IntKind.i64.wrap (s.Seq + 1) = s.Seq + 1 := by rw [IntKind.wrap_i64]; omega
 have E0 : Ext w w := Ext.refl _
 go_enter Tryz.func16, Tryz.ntmps16
 go_wp2_with fail
 refine (schedOk_kS (h.ext (by exact extT))).mono ?_
 rintro e w1 ⟨rfl, hx1⟩
 have X1 : Ext w w1 := Ext.trans (by exact extT) hx1
 have hz1 := X1.size
 have hy1 := hx1.size; (try simp only [szA] at hy1)
 have KS1 : Blk w1 w.heap.size 32 #[.int .i64 s.Id, .int .i64 s.Seq, .int .i64 s.View.Jobs.Index, .int .i64 s.View.Jobs.Time, .int .i64 s.View.Jobs.Holder, .int .i64 s.View.Jobs.Epoch, .int .i64 s.View.Jobs.Until, .slice a7 n7 k7, .bool bz, .int .i64 s.Op.Kind, .int .i64 s.Op.A, .int .i64 s.Op.B, .int .i64 s.Op.C, .int .i64 s.Op.D, .int .i64 s.Index] := Blk.ext (Blk.cast (by exact blkT) setsT) hx1
 have KR1 : Blk w1 (w.heap.size + 1) 32 #[.int .i64 0, .int .i64 0, .int .i64 0, .int .i64 0, .int .i64 0, .int .i64 0, .int .i64 0, .slice none 0 0, .bool false, .int .i64 0, .int .i64 0, .int .i64 0, .int .i64 0, .int .i64 0, .int .i64 0] := Blk.ext (Blk.cast (by exact blkT) setsT) hx1
 have E1 : Ext w w1 := E0.trans X1
 clear hx1 X1
 have CS1 := KS1.cell; have FS1 := KS1.frozen; have LS1 := KS1.lt
 have CR1 := KR1.cell; have FR1 := KR1.frozen; have LR1 := KR1.lt
 have hl8 := schedOkS_len hb0; have hb1 := Hb.out; rw [hb0]; clear hb0
 go_wp2_with fail
 refine (copySched_k (h.ext (by exact extT)) (by omega)).mono ?_
 rintro e w2 ⟨_, rfl, hx2, FD, gd⟩
 have X2 : Ext w1 w2 := Ext.trans (by exact extT) hx2
 have hz2 := X2.size
 have hy2 := hx2.size; (try simp only [szA] at hy2)
 have KS2 : Blk w2 w.heap.size 32 #[.int .i64 s.Id, .int .i64 s.Seq, .int .i64 s.View.Jobs.Index, .int .i64 s.View.Jobs.Time, .int .i64 s.View.Jobs.Holder, .int .i64 s.View.Jobs.Epoch, .int .i64 s.View.Jobs.Until, .slice a7 n7 k7, .bool bz, .int .i64 s.Op.Kind, .int .i64 s.Op.A, .int .i64 s.Op.B, .int .i64 s.Op.C, .int .i64 s.Op.D, .int .i64 s.Index] := Blk.ext (Blk.cast (by exact blkT) setsT) hx2
 clear KS1
 have KR2 : Blk w2 (w.heap.size + 1) 32 #[.int .i64 0, .int .i64 0, .int .i64 0, .int .i64 0, .int .i64 0, .int .i64 0, .int .i64 0, .slice none 0 0, .bool false, .int .i64 0, .int .i64 0, .int .i64 0, .int .i64 0, .int .i64 0, .int .i64 0] := Blk.ext (Blk.cast (by exact blkT) setsT) hx2
 clear KR1
 have E2 : Ext w w2 := E1.trans X2
 clear hx2 X2 E1
 clear CS1 FS1 LS1 CR1 FR1 LR1
 have CS2 := KS2.cell; have FS2 := KS2.frozen; have LS2 := KS2.lt
 have CR2 := KR2.cell; have FR2 := KR2.frozen; have LR2 := KR2.lt
 obtain ⟨t2, rfl, gO, -⟩ := gd
 obtain ⟨ad, nd, kd, rfl⟩ := gO.shape
 rw [HB.out]
 replace gO := OwnI.mono (B' := w.heap.size) gO (by first | omega | (simp only [szA]; omega))
 go_wp2_with fail
 refine (decide_k (h.ext (by exact extT)) hb1).mono ?_
 rintro e w3 ⟨rfl, hx3⟩
 have X3 : Ext w2 w3 := Ext.trans (by exact extT) hx3
 have hz3 := X3.size
 have hy3 := hx3.size; (try simp only [szA] at hy3)
 have KS3 : Blk w3 w.heap.size 32 #[.int .i64 s.Id, .int .i64 s.Seq, .int .i64 s.View.Jobs.Index, .int .i64 s.View.Jobs.Time, .int .i64 s.View.Jobs.Holder, .int .i64 s.View.Jobs.Epoch, .int .i64 s.View.Jobs.Until, .slice a7 n7 k7, .bool bz, .int .i64 s.Op.Kind, .int .i64 s.Op.A, .int .i64 s.Op.B, .int .i64 s.Op.C, .int .i64 s.Op.D, .int .i64 s.Index] := Blk.ext (Blk.cast (by exact blkT) setsT) hx3
 clear KS2
 have KR3 : Blk w3 (w.heap.size + 1) 32 #[.int .i64 0, .int .i64 0, .int .i64 0, .int .i64 0, .int .i64 0, .int .i64 0, .int .i64 0, .slice none 0 0, .bool false, .int .i64 0, .int .i64 0, .int .i64 0, .int .i64 0, .int .i64 0, .int .i64 0] := Blk.ext (Blk.cast (by exact blkT) setsT) hx3
 clear KR2
 have KO3 : Blk w3 w2.heap.size 32 #[.int .i64 s.Id, .int .i64 s.Seq, .int .i64 s.View.Jobs.Index, .int .i64 s.View.Jobs.Time, .int .i64 s.View.Jobs.Holder, .int .i64 s.View.Jobs.Epoch, .int .i64 s.View.Jobs.Until, .slice ad nd kd, .bool bz, .int .i64 s.Op.Kind, .int .i64 s.Op.A, .int .i64 s.Op.B, .int .i64 s.Op.C, .int .i64 s.Op.D, .int .i64 s.Index] := Blk.ext (Blk.cast (by exact blkT) setsT) hx3
 have gO := gO.ext X3
 have E3 : Ext w w3 := E2.trans X3
 clear hx3 X3 E2
 clear CS2 FS2 LS2 CR2 FR2 LR2
 have CS3 := KS3.cell; have FS3 := KS3.frozen; have LS3 := KS3.lt
 have CR3 := KR3.cell; have FR3 := KR3.frozen; have LR3 := KR3.lt
 have CO3 := KO3.cell; have FO3 := KO3.frozen; have LO3 := KO3.lt
 rw [hv0]; clear hv0 hb1
 have ta1 : ∀ w : World, (Instr.typeAssert (.iface 93 (.agg #[])) 88 91 true).run Tryz.prog w = .ok (.tuple #[.agg #[.int .i64 0, .int .i64 0], .bool false]) w := fun _ => by kernel_rfl
 have ta2 : ∀ w : World, (Instr.typeAssert (.iface 93 (.agg #[])) 88 93 true).run Tryz.prog w = .ok (.tuple #[.agg #[], .bool true]) w := fun _ => by kernel_rfl
 go_wp2_with fail
 refine bodyPost_ret (by simp [results, Tryz.results16, go_sem, CS3, FS3, LS3, CR3, FR3, LR3, CO3, FO3, LO3]; try rfl) rfl ?_
 have eA : decided s now = ⟨s.Id, s.Seq + 1, s.View, true, ⟨5, 20, 0, 0, 0⟩, s.Index⟩ := dec_some Hb.out Ho.out
 rw [eA]; clear eA
 exact ⟨_, rfl, by exact extT, _, _, (by first | rfl | (rw [hw9]; rfl)), (by exact ownS), rfl⟩
theorem decided_k {w : World} {v : Value} {s : DSched} (h : RdSched w v s) (now : Int) : Calls Tryz.prog 16 #[v, .int .i64 now] w (Ret w fun r w' => ∃ F, OwSched w.heap.size w' r (decided s now) F) := by
 cases hb : schedOkS s
 ·
  exact decided_k_bad h hb
 rcases decV_cases s now with ⟨ho, hv⟩ | ⟨oa, ob, ho, hv⟩ | ⟨ho, hv⟩
 ·
  exact decided_k_none h hb ho hv
 ·
  exact decided_k_fire h hb ho hv
 ·
  exact decided_k_lease h hb ho hv

end Go.Proofs.YtcnioiieiebodaaGreat
