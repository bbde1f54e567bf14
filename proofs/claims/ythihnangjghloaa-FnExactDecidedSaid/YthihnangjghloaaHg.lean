/- Contracts and plain laws: DEi. -/
import Derived.Test.YthihnangjghloaaGa
import Derived.Test.YthihnangjghloaaHf
set_option linter.unusedSimpArgs false
set_option linter.unusedVariables false
-- Decided of the program.
set_option linter.unusedSimpArgs false
set_option linter.unusedVariables false
namespace Go.Proofs.Ythihnangjghloaa
open Go.RowKit Go.G8

set_option maxHeartbeats 4000000 in
set_option maxRecDepth 100000 in
theorem decided_k_bad {w : World} {v : Value} {s : DSched} (h : RdSched w v s) {now : Int} (hb : schedOkS s = false) : Calls Try.prog 20 #[v, .int .i64 now] w (Ret w fun r w' => ∃ F, OwSched w.heap.size w' r (decided s now) F) := by
 obtain ⟨a7, n7, k7, rfl⟩ := h.shape
 obtain ⟨bz, hbz⟩ : ∃ b : Bool, s.Busy = b := ⟨_, rfl⟩
 rw [hbz] at h ⊢
 have HB := Lib.hid hbz; clear hbz
 have hb0 := hb; have Hb := Lib.hid hb; clear hb
 have E0 : Ext w w := Ext.refl _
 go_enter Try.func20, Try.ntmps20
 go_wp2_with fail
 refine (schedOk_kS (h.ext (by exact extT))).mono ?_
 rintro e w1 ⟨rfl, hx1⟩
 have X1 : Ext w w1 := Ext.trans (by exact extT) hx1
 have hz1 := X1.size
 have hy1 := hx1.size; (try simp only [szA] at hy1)
 have KS1 : Blk w1 w.heap.size 65 #[.int .i64 s.Id, .int .i64 s.Seq, .int .i64 s.View.Jobs.Index, .int .i64 s.View.Jobs.Time, .int .i64 s.View.Jobs.Holder, .int .i64 s.View.Jobs.Epoch, .int .i64 s.View.Jobs.Until, .slice a7 n7 k7, .bool bz, .int .i64 s.Op.Kind, .int .i64 s.Op.A, .int .i64 s.Op.B, .int .i64 s.Op.C, .int .i64 s.Op.D, .int .i64 s.Index] := Blk.ext (Blk.cast (by exact blkT) setsT) hx1
 have KR1 : Blk w1 (w.heap.size + 1) 65 #[.int .i64 0, .int .i64 0, .int .i64 0, .int .i64 0, .int .i64 0, .int .i64 0, .int .i64 0, .slice none 0 0, .bool false, .int .i64 0, .int .i64 0, .int .i64 0, .int .i64 0, .int .i64 0, .int .i64 0] := Blk.ext (Blk.cast (by exact blkT) setsT) hx1
 have E1 : Ext w w1 := E0.trans X1
 clear hx1 X1
 have CS1 := KS1.cell; have FS1 := KS1.frozen; have LS1 := KS1.lt
 have CR1 := KR1.cell; have FR1 := KR1.frozen; have LR1 := KR1.lt
 rw [hb0]
 go_wp2_with fail
 refine bodyPost_ret (by simp [results, Try.results20, go_sem, CS1, FS1, LS1, CR1, FR1, LR1]; try rfl) rfl ?_
 have eA : decided s now = zSched := dec_bad Hb.out
 rw [eA]; clear eA
 exact ⟨_, rfl, by exact extT, _, .slice none 0 0, rfl, OwnI.nil _ _ _ _, rfl⟩
set_option maxHeartbeats 4000000 in
set_option maxRecDepth 100000 in
theorem decided_k_none {w : World} {v : Value} {s : DSched} (h : RdSched w v s) {now : Int} (hb : schedOkS s = true) (ho : nextOp s now = none) (hv : decV s now = .iface 159 (.agg #[])) : Calls Try.prog 20 #[v, .int .i64 now] w (Ret w fun r w' => ∃ F, OwSched w.heap.size w' r (decided s now) F) := by
 obtain ⟨a7, n7, k7, rfl⟩ := h.shape
 obtain ⟨bz, hbz⟩ : ∃ b : Bool, s.Busy = b := ⟨_, rfl⟩
 rw [hbz] at h ⊢
 have HB := Lib.hid hbz; clear hbz
 have hb0 := hb; have Hb := Lib.hid hb; clear hb
 have Ho := Lib.hid ho; have hv0 := hv; clear ho hv
 have hq0 := schedOkS_seq hb0
 have hw9 : IntKind.i64.wrap (s.Seq + 1) = s.Seq + 1 := by rw [IntKind.wrap_i64]; omega
 have E0 : Ext w w := Ext.refl _
 go_enter Try.func20, Try.ntmps20
 go_wp2_with fail
 refine (schedOk_kS (h.ext (by exact extT))).mono ?_
 rintro e w1 ⟨rfl, hx1⟩
 have X1 : Ext w w1 := Ext.trans (by exact extT) hx1
 have hz1 := X1.size
 have hy1 := hx1.size; (try simp only [szA] at hy1)
 have KS1 : Blk w1 w.heap.size 65 #[.int .i64 s.Id, .int .i64 s.Seq, .int .i64 s.View.Jobs.Index, .int .i64 s.View.Jobs.Time, .int .i64 s.View.Jobs.Holder, .int .i64 s.View.Jobs.Epoch, .int .i64 s.View.Jobs.Until, .slice a7 n7 k7, .bool bz, .int .i64 s.Op.Kind, .int .i64 s.Op.A, .int .i64 s.Op.B, .int .i64 s.Op.C, .int .i64 s.Op.D, .int .i64 s.Index] := Blk.ext (Blk.cast (by exact blkT) setsT) hx1
 have KR1 : Blk w1 (w.heap.size + 1) 65 #[.int .i64 0, .int .i64 0, .int .i64 0, .int .i64 0, .int .i64 0, .int .i64 0, .int .i64 0, .slice none 0 0, .bool false, .int .i64 0, .int .i64 0, .int .i64 0, .int .i64 0, .int .i64 0, .int .i64 0] := Blk.ext (Blk.cast (by exact blkT) setsT) hx1
 have E1 : Ext w w1 := E0.trans X1
 clear hx1 X1
 have CS1 := KS1.cell; have FS1 := KS1.frozen; have LS1 := KS1.lt
 have CR1 := KR1.cell; have FR1 := KR1.frozen; have LR1 := KR1.lt
 have hl8 := schedOkS_len hb0; have hb1 := Hb.out; rw [hb0]; clear hb0
 go_wp2_with fail
 refine (copySched_k (h.ext (by exact extT)) (by omega)).mono ?_
 rintro e w2 ⟨_, rfl, hx2, FD, gd⟩
 have X2 : Ext w1 w2 := Ext.trans (by exact extT) hx2
 have hz2 := X2.size
 have hy2 := hx2.size; (try simp only [szA] at hy2)
 have KS2 : Blk w2 w.heap.size 65 #[.int .i64 s.Id, .int .i64 s.Seq, .int .i64 s.View.Jobs.Index, .int .i64 s.View.Jobs.Time, .int .i64 s.View.Jobs.Holder, .int .i64 s.View.Jobs.Epoch, .int .i64 s.View.Jobs.Until, .slice a7 n7 k7, .bool bz, .int .i64 s.Op.Kind, .int .i64 s.Op.A, .int .i64 s.Op.B, .int .i64 s.Op.C, .int .i64 s.Op.D, .int .i64 s.Index] := Blk.ext (Blk.cast (by exact blkT) setsT) hx2
 clear KS1
 have KR2 : Blk w2 (w.heap.size + 1) 65 #[.int .i64 0, .int .i64 0, .int .i64 0, .int .i64 0, .int .i64 0, .int .i64 0, .int .i64 0, .slice none 0 0, .bool false, .int .i64 0, .int .i64 0, .int .i64 0, .int .i64 0, .int .i64 0, .int .i64 0] := Blk.ext (Blk.cast (by exact blkT) setsT) hx2
 clear KR1
 have E2 : Ext w w2 := E1.trans X2
 clear hx2 X2 E1
 clear CS1 FS1 LS1 CR1 FR1 LR1
 have CS2 := KS2.cell; have FS2 := KS2.frozen; have LS2 := KS2.lt
 have CR2 := KR2.cell; have FR2 := KR2.frozen; have LR2 := KR2.lt
 obtain ⟨t2, rfl, gO, -⟩ := gd
 obtain ⟨ad, nd, kd, rfl⟩ := gO.shape
 rw [HB.out]
 replace gO := OwnI.mono (B' := w.heap.size) gO (by first | omega | (simp only [szA]; omega))
 go_wp2_with fail
 refine (decide_k (h.ext (by exact extT)) hb1).mono ?_
 rintro e w3 ⟨rfl, hx3⟩
 have X3 : Ext w2 w3 := Ext.trans (by exact extT) hx3
 have hz3 := X3.size
 have hy3 := hx3.size; (try simp only [szA] at hy3)
 have KS3 : Blk w3 w.heap.size 65 #[.int .i64 s.Id, .int .i64 s.Seq, .int .i64 s.View.Jobs.Index, .int .i64 s.View.Jobs.Time, .int .i64 s.View.Jobs.Holder, .int .i64 s.View.Jobs.Epoch, .int .i64 s.View.Jobs.Until, .slice a7 n7 k7, .bool bz, .int .i64 s.Op.Kind, .int .i64 s.Op.A, .int .i64 s.Op.B, .int .i64 s.Op.C, .int .i64 s.Op.D, .int .i64 s.Index] := Blk.ext (Blk.cast (by exact blkT) setsT) hx3
 clear KS2
 have KR3 : Blk w3 (w.heap.size + 1) 65 #[.int .i64 0, .int .i64 0, .int .i64 0, .int .i64 0, .int .i64 0, .int .i64 0, .int .i64 0, .slice none 0 0, .bool false, .int .i64 0, .int .i64 0, .int .i64 0, .int .i64 0, .int .i64 0, .int .i64 0] := Blk.ext (Blk.cast (by exact blkT) setsT) hx3
 clear KR2
 have KO3 : Blk w3 w2.heap.size 65 #[.int .i64 s.Id, .int .i64 s.Seq, .int .i64 s.View.Jobs.Index, .int .i64 s.View.Jobs.Time, .int .i64 s.View.Jobs.Holder, .int .i64 s.View.Jobs.Epoch, .int .i64 s.View.Jobs.Until, .slice ad nd kd, .bool bz, .int .i64 s.Op.Kind, .int .i64 s.Op.A, .int .i64 s.Op.B, .int .i64 s.Op.C, .int .i64 s.Op.D, .int .i64 s.Index] := Blk.ext (Blk.cast (by exact blkT) setsT) hx3
 have gO := gO.ext X3
 have E3 : Ext w w3 := E2.trans X3
 clear hx3 X3 E2
 clear CS2 FS2 LS2 CR2 FR2 LR2
 have CS3 := KS3.cell; have FS3 := KS3.frozen; have LS3 := KS3.lt
 have CR3 := KR3.cell; have FR3 := KR3.frozen; have LR3 := KR3.lt
 have CO3 := KO3.cell; have FO3 := KO3.frozen; have LO3 := KO3.lt
 rw [hv0]; clear hv0 hb1
 have ta1 : ∀ w : World, (Instr.typeAssert (.iface 159 (.agg #[])) 107 110 true).run Try.prog w = .ok (.tuple #[.agg #[.int .i64 0, .int .i64 0], .bool false]) w := fun _ => by kernel_rfl
 have ta2 : ∀ w : World, (Instr.typeAssert (.iface 159 (.agg #[])) 107 112 true).run Try.prog w = .ok (.tuple #[.agg #[], .bool false]) w := fun _ => by kernel_rfl
 go_wp2_with fail
 refine bodyPost_ret (by simp [results, Try.results20, go_sem, CS3, FS3, LS3, CR3, FR3, LR3, CO3, FO3, LO3]; try rfl) rfl ?_
 have eA : decided s now = s := dec_same Hb.out Ho.out
 rw [eA]; clear eA
 exact ⟨_, rfl, by exact extT, _, _, (by first | rfl | (rw [HB.out])), (by exact ownS), rfl⟩
set_option maxHeartbeats 4000000 in
set_option maxRecDepth 100000 in
theorem decided_k_fire {w : World} {v : Value} {s : DSched} (h : RdSched w v s) {now : Int} (hb : schedOkS s = true) {oa ob : Int} (ho : nextOp s now = some ⟨4, oa, ob, 0, 0⟩) (hv : decV s now = .iface 110 (.agg #[.int .i64 oa, .int .i64 ob])) : Calls Try.prog 20 #[v, .int .i64 now] w (Ret w fun r w' => ∃ F, OwSched w.heap.size w' r (decided s now) F) := by
 obtain ⟨a7, n7, k7, rfl⟩ := h.shape
 obtain ⟨bz, hbz⟩ : ∃ b : Bool, s.Busy = b := ⟨_, rfl⟩
 rw [hbz] at h ⊢
 have HB := Lib.hid hbz; clear hbz
 have hb0 := hb; have Hb := Lib.hid hb; clear hb
 have Ho := Lib.hid ho; have hv0 := hv; clear ho hv
 have hq0 := schedOkS_seq hb0
 have hw9 : IntKind.i64.wrap (s.Seq + 1) = s.Seq + 1 := by rw [IntKind.wrap_i64]; omega
 have E0 : Ext w w := Ext.refl _
 go_enter Try.func20, Try.ntmps20
 go_wp2_with fail
 refine (schedOk_kS (h.ext (by exact extT))).mono ?_
 rintro e w1 ⟨rfl, hx1⟩
 have X1 : Ext w w1 := Ext.trans (by exact extT) hx1
 have hz1 := X1.size
 have hy1 := hx1.size; (try simp only [szA] at hy1)
 have KS1 : Blk w1 w.heap.size 65 #[.int .i64 s.Id, .int .i64 s.Seq, .int .i64 s.View.Jobs.Index, .int .i64 s.View.Jobs.Time, .int .i64 s.View.Jobs.Holder, .int .i64 s.View.Jobs.Epoch, .int .i64 s.View.Jobs.Until, .slice a7 n7 k7, .bool bz, .int .i64 s.Op.Kind, .int .i64 s.Op.A, .int .i64 s.Op.B, .int .i64 s.Op.C, .int .i64 s.Op.D, .int .i64 s.Index] := Blk.ext (Blk.cast (by exact blkT) setsT) hx1
 have KR1 : Blk w1 (w.heap.size + 1) 65 #[.int .i64 0, .int .i64 0, .int .i64 0, .int .i64 0, .int .i64 0, .int .i64 0, .int .i64 0, .slice none 0 0, .bool false, .int .i64 0, .int .i64 0, .int .i64 0, .int .i64 0, .int .i64 0, .int .i64 0] := Blk.ext (Blk.cast (by exact blkT) setsT) hx1
 have E1 : Ext w w1 := E0.trans X1
 clear hx1 X1
 have CS1 := KS1.cell; have FS1 := KS1.frozen; have LS1 := KS1.lt
 have CR1 := KR1.cell; have FR1 := KR1.frozen; have LR1 := KR1.lt
 have hl8 := schedOkS_len hb0; have hb1 := Hb.out; rw [hb0]; clear hb0
 go_wp2_with fail
 refine (copySched_k (h.ext (by exact extT)) (by omega)).mono ?_
 rintro e w2 ⟨_, rfl, hx2, FD, gd⟩
 have X2 : Ext w1 w2 := Ext.trans (by exact extT) hx2
 have hz2 := X2.size
 have hy2 := hx2.size; (try simp only [szA] at hy2)
 have KS2 : Blk w2 w.heap.size 65 #[.int .i64 s.Id, .int .i64 s.Seq, .int .i64 s.View.Jobs.Index, .int .i64 s.View.Jobs.Time, .int .i64 s.View.Jobs.Holder, .int .i64 s.View.Jobs.Epoch, .int .i64 s.View.Jobs.Until, .slice a7 n7 k7, .bool bz, .int .i64 s.Op.Kind, .int .i64 s.Op.A, .int .i64 s.Op.B, .int .i64 s.Op.C, .int .i64 s.Op.D, .int .i64 s.Index] := Blk.ext (Blk.cast (by exact blkT) setsT) hx2
 clear KS1
 have KR2 : Blk w2 (w.heap.size + 1) 65 #[.int .i64 0, .int .i64 0, .int .i64 0, .int .i64 0, .int .i64 0, .int .i64 0, .int .i64 0, .slice none 0 0, .bool false, .int .i64 0, .int .i64 0, .int .i64 0, .int .i64 0, .int .i64 0, .int .i64 0] := Blk.ext (Blk.cast (by exact blkT) setsT) hx2
 clear KR1
 have E2 : Ext w w2 := E1.trans X2
 clear hx2 X2 E1
 clear CS1 FS1 LS1 CR1 FR1 LR1
 have CS2 := KS2.cell; have FS2 := KS2.frozen; have LS2 := KS2.lt
 have CR2 := KR2.cell; have FR2 := KR2.frozen; have LR2 := KR2.lt
 obtain ⟨t2, rfl, gO, -⟩ := gd
 obtain ⟨ad, nd, kd, rfl⟩ := gO.shape
 rw [HB.out]
 replace gO := OwnI.mono (B' := w.heap.size) gO (by first | omega | (simp only [szA]; omega))
 go_wp2_with fail
 refine (decide_k (h.ext (by exact extT)) hb1).mono ?_
 rintro e w3 ⟨rfl, hx3⟩
 have X3 : Ext w2 w3 := Ext.trans (by exact extT) hx3
 have hz3 := X3.size
 have hy3 := hx3.size; (try simp only [szA] at hy3)
 have KS3 : Blk w3 w.heap.size 65 #[.int .i64 s.Id, .int .i64 s.Seq, .int .i64 s.View.Jobs.Index, .int .i64 s.View.Jobs.Time, .int .i64 s.View.Jobs.Holder, .int .i64 s.View.Jobs.Epoch, .int .i64 s.View.Jobs.Until, .slice a7 n7 k7, .bool bz, .int .i64 s.Op.Kind, .int .i64 s.Op.A, .int .i64 s.Op.B, .int .i64 s.Op.C, .int .i64 s.Op.D, .int .i64 s.Index] := Blk.ext (Blk.cast (by exact blkT) setsT) hx3
 clear KS2
 have KR3 : Blk w3 (w.heap.size + 1) 65 #[.int .i64 0, .int .i64 0, .int .i64 0, .int .i64 0, .int .i64 0, .int .i64 0, .int .i64 0, .slice none 0 0, .bool false, .int .i64 0, .int .i64 0, .int .i64 0, .int .i64 0, .int .i64 0, .int .i64 0] := Blk.ext (Blk.cast (by exact blkT) setsT) hx3
 clear KR2
 have KO3 : Blk w3 w2.heap.size 65 #[.int .i64 s.Id, .int .i64 s.Seq, .int .i64 s.View.Jobs.Index, .int .i64 s.View.Jobs.Time, .int .i64 s.View.Jobs.Holder, .int .i64 s.View.Jobs.Epoch, .int .i64 s.View.Jobs.Until, .slice ad nd kd, .bool bz, .int .i64 s.Op.Kind, .int .i64 s.Op.A, .int .i64 s.Op.B, .int .i64 s.Op.C, .int .i64 s.Op.D, .int .i64 s.Index] := Blk.ext (Blk.cast (by exact blkT) setsT) hx3
 have gO := gO.ext X3
 have E3 : Ext w w3 := E2.trans X3
 clear hx3 X3 E2
 clear CS2 FS2 LS2 CR2 FR2 LR2
 have CS3 := KS3.cell; have FS3 := KS3.frozen; have LS3 := KS3.lt
 have CR3 := KR3.cell; have FR3 := KR3.frozen; have LR3 := KR3.lt
 have CO3 := KO3.cell; have FO3 := KO3.frozen; have LO3 := KO3.lt
 rw [hv0]; clear hv0 hb1
 have ta1 : ∀ w : World, (Instr.typeAssert (.iface 110 (.agg #[.int .i64 oa, .int .i64 ob])) 107 110 true).run Try.prog w = .ok (.tuple #[.agg #[.int .i64 oa, .int .i64 ob], .bool true]) w := fun _ => by kernel_rfl
 go_wp2_with fail
 refine bodyPost_ret (by simp [results, Try.results20, go_sem, CS3, FS3, LS3, CR3, FR3, LR3, CO3, FO3, LO3]; try rfl) rfl ?_
 have eA : decided s now = ⟨s.Id, s.Seq + 1, s.View, true, ⟨4, oa, ob, 0, 0⟩, s.Index⟩ := dec_some Hb.out Ho.out
 rw [eA]; clear eA
 exact ⟨_, rfl, by exact extT, _, _, (by first | rfl | (rw [hw9]; rfl)), (by exact ownS), rfl⟩
set_option maxHeartbeats 4000000 in
set_option maxRecDepth 100000 in
theorem decided_k_lease {w : World} {v : Value} {s : DSched} (h : RdSched w v s) {now : Int} (hb : schedOkS s = true) (ho : nextOp s now = some ⟨5, 20, 0, 0, 0⟩) (hv : decV s now = .iface 112 (.agg #[])) : Calls Try.prog 20 #[v, .int .i64 now] w (Ret w fun r w' => ∃ F, OwSched w.heap.size w' r (decided s now) F) := by
 obtain ⟨a7, n7, k7, rfl⟩ := h.shape
 obtain ⟨bz, hbz⟩ : ∃ b : Bool, s.Busy = b := ⟨_, rfl⟩
 rw [hbz] at h ⊢
 have HB := Lib.hid hbz; clear hbz
 have hb0 := hb; have Hb := Lib.hid hb; clear hb
 have Ho := Lib.hid ho; have hv0 := hv; clear ho hv
 have hq0 := schedOkS_seq hb0
 have hw9 : IntKind.i64.wrap (s.Seq + 1) = s.Seq + 1 := by rw [IntKind.wrap_i64]; omega
 have E0 : Ext w w := Ext.refl _
 go_enter Try.func20, Try.ntmps20
 go_wp2_with fail
 refine (schedOk_kS (h.ext (by exact extT))).mono ?_
 rintro e w1 ⟨rfl, hx1⟩
 have X1 : Ext w w1 := Ext.trans (by exact extT) hx1
 have hz1 := X1.size
 have hy1 := hx1.size; (try simp only [szA] at hy1)
 have KS1 : Blk w1 w.heap.size 65 #[.int .i64 s.Id, .int .i64 s.Seq, .int .i64 s.View.Jobs.Index, .int .i64 s.View.Jobs.Time, .int .i64 s.View.Jobs.Holder, .int .i64 s.View.Jobs.Epoch, .int .i64 s.View.Jobs.Until, .slice a7 n7 k7, .bool bz, .int .i64 s.Op.Kind, .int .i64 s.Op.A, .int .i64 s.Op.B, .int .i64 s.Op.C, .int .i64 s.Op.D, .int .i64 s.Index] := Blk.ext (Blk.cast (by exact blkT) setsT) hx1
 have KR1 : Blk w1 (w.heap.size + 1) 65 #[.int .i64 0, .int .i64 0, .int .i64 0, .int .i64 0, .int .i64 0, .int .i64 0, .int .i64 0, .slice none 0 0, .bool false, .int .i64 0, .int .i64 0, .int .i64 0, .int .i64 0, .int .i64 0, .int .i64 0] := Blk.ext (Blk.cast (by exact blkT) setsT) hx1
 have E1 : Ext w w1 := E0.trans X1
 clear hx1 X1
 have CS1 := KS1.cell; have FS1 := KS1.frozen; have LS1 := KS1.lt
 have CR1 := KR1.cell; have FR1 := KR1.frozen; have LR1 := KR1.lt
 have hl8 := schedOkS_len hb0; have hb1 := Hb.out; rw [hb0]; clear hb0
 go_wp2_with fail
 refine (copySched_k (h.ext (by exact extT)) (by omega)).mono ?_
 rintro e w2 ⟨_, rfl, hx2, FD, gd⟩
 have X2 : Ext w1 w2 := Ext.trans (by exact extT) hx2
 have hz2 := X2.size
 have hy2 := hx2.size; (try simp only [szA] at hy2)
 have KS2 : Blk w2 w.heap.size 65 #[.int .i64 s.Id, .int .i64 s.Seq, .int .i64 s.View.Jobs.Index, .int .i64 s.View.Jobs.Time, .int .i64 s.View.Jobs.Holder, .int .i64 s.View.Jobs.Epoch, .int .i64 s.View.Jobs.Until, .slice a7 n7 k7, .bool bz, .int .i64 s.Op.Kind, .int .i64 s.Op.A, .int .i64 s.Op.B, .int .i64 s.Op.C, .int .i64 s.Op.D, .int .i64 s.Index] := Blk.ext (Blk.cast (by exact blkT) setsT) hx2
 clear KS1
 have KR2 : Blk w2 (w.heap.size + 1) 65 #[.int .i64 0, .int .i64 0, .int .i64 0, .int .i64 0, .int .i64 0, .int .i64 0, .int .i64 0, .slice none 0 0, .bool false, .int .i64 0, .int .i64 0, .int .i64 0, .int .i64 0, .int .i64 0, .int .i64 0] := Blk.ext (Blk.cast (by exact blkT) setsT) hx2
 clear KR1
 have E2 : Ext w w2 := E1.trans X2
 clear hx2 X2 E1
 clear CS1 FS1 LS1 CR1 FR1 LR1
 have CS2 := KS2.cell; have FS2 := KS2.frozen; have LS2 := KS2.lt
 have CR2 := KR2.cell; have FR2 := KR2.frozen; have LR2 := KR2.lt
 obtain ⟨t2, rfl, gO, -⟩ := gd
 obtain ⟨ad, nd, kd, rfl⟩ := gO.shape
 rw [HB.out]
 replace gO := OwnI.mono (B' := w.heap.size) gO (by first | omega | (simp only [szA]; omega))
 go_wp2_with fail
 refine (decide_k (h.ext (by exact extT)) hb1).mono ?_
 rintro e w3 ⟨rfl, hx3⟩
 have X3 : Ext w2 w3 := Ext.trans (by exact extT) hx3
 have hz3 := X3.size
 have hy3 := hx3.size; (try simp only [szA] at hy3)
 have KS3 : Blk w3 w.heap.size 65 #[.int .i64 s.Id, .int .i64 s.Seq, .int .i64 s.View.Jobs.Index, .int .i64 s.View.Jobs.Time, .int .i64 s.View.Jobs.Holder, .int .i64 s.View.Jobs.Epoch, .int .i64 s.View.Jobs.Until, .slice a7 n7 k7, .bool bz, .int .i64 s.Op.Kind, .int .i64 s.Op.A, .int .i64 s.Op.B, .int .i64 s.Op.C, .int .i64 s.Op.D, .int .i64 s.Index] := Blk.ext (Blk.cast (by exact blkT) setsT) hx3
 clear KS2
 have KR3 : Blk w3 (w.heap.size + 1) 65 #[.int .i64 0, .int .i64 0, .int .i64 0, .int .i64 0, .int .i64 0, .int .i64 0, .int .i64 0, .slice none 0 0, .bool false, .int .i64 0, .int .i64 0, .int .i64 0, .int .i64 0, .int .i64 0, .int .i64 0] := Blk.ext (Blk.cast (by exact blkT) setsT) hx3
 clear KR2
 have KO3 : Blk w3 w2.heap.size 65 #[.int .i64 s.Id, .int .i64 s.Seq, .int .i64 s.View.Jobs.Index, .int .i64 s.View.Jobs.Time, .int .i64 s.View.Jobs.Holder, .int .i64 s.View.Jobs.Epoch, .int .i64 s.View.Jobs.Until, .slice ad nd kd, .bool bz, .int .i64 s.Op.Kind, .int .i64 s.Op.A, .int .i64 s.Op.B, .int .i64 s.Op.C, .int .i64 s.Op.D, .int .i64 s.Index] := Blk.ext (Blk.cast (by exact blkT) setsT) hx3
 have gO := gO.ext X3
 have E3 : Ext w w3 := E2.trans X3
 clear hx3 X3 E2
 clear CS2 FS2 LS2 CR2 FR2 LR2
 have CS3 := KS3.cell; have FS3 := KS3.frozen; have LS3 := KS3.lt
 have CR3 := KR3.cell; have FR3 := KR3.frozen; have LR3 := KR3.lt
 have CO3 := KO3.cell; have FO3 := KO3.frozen; have LO3 := KO3.lt
 rw [hv0]; clear hv0 hb1
 have ta1 : ∀ w : World, (Instr.typeAssert (.iface 112 (.agg #[])) 107 110 true).run Try.prog w = .ok (.tuple #[.agg #[.int .i64 0, .int .i64 0], .bool false]) w := fun _ => by kernel_rfl
 have ta2 : ∀ w : World, (Instr.typeAssert (.iface 112 (.agg #[])) 107 112 true).run Try.prog w = .ok (.tuple #[.agg #[], .bool true]) w := fun _ => by kernel_rfl
 go_wp2_with fail
 refine bodyPost_ret (by simp [results, Try.results20, go_sem, CS3, FS3, LS3, CR3, FR3, LR3, CO3, FO3, LO3]; try rfl) rfl ?_
 have eA : decided s now = ⟨s.Id, s.Seq + 1, s.View, true, ⟨5, 20, 0, 0, 0⟩, s.Index⟩ := dec_some Hb.out Ho.out
 rw [eA]; clear eA
 exact ⟨_, rfl, by exact extT, _, _, (by first | rfl | (rw [hw9]; rfl)), (by exact ownS), rfl⟩
theorem decided_k {w : World} {v : Value} {s : DSched} (h : RdSched w v s) (now : Int) : Calls Try.prog 20 #[v, .int .i64 now] w (Ret w fun r w' => ∃ F, OwSched w.heap.size w' r (decided s now) F) := by
 cases hb : schedOkS s
 ·
  exact decided_k_bad h hb
 rcases decV_cases s now with ⟨ho, hv⟩ | ⟨oa, ob, ho, hv⟩ | ⟨ho, hv⟩
 ·
  exact decided_k_none h hb ho hv
 ·
  exact decided_k_fire h hb ho hv
 ·
  exact decided_k_lease h hb ho hv

end Go.Proofs.Ythihnangjghloaa
