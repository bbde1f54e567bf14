/- Contracts and plain laws: DEs2. -/
import Derived.Test.YtfhaooaajpopmaaGreatMa
import Derived.Test.YtfhaooaajpopmaaGreatNa
set_option linter.unusedSimpArgs false
set_option linter.unusedVariables false
set_option maxHeartbeats 8000000
set_option maxRecDepth 100000
namespace Go.Proofs.YtfhaooaajpopmaaGreat
open Go.RowKit Go.G8
theorem sDecided_k_fire {w : World} {v : Value} {s : DSched} (h : RdSched w v s) {now : Int} (hb : schedOkS s = true) (ht : timeOk now = true) (hbz : s.Busy = false) (hq : s.Seq ≠ 2000) (hst : staleIn s.View s.Index = false) (hh : holdsIn s.View s.Id now = true) (hn : nfOk s.View now = true) : Calls Tryz.prog 56 #[v, .int .i64 now] w (Ret w fun r w' => ∃ F, OwSched w.heap.size w' r (decided s now) F) := by
 obtain ⟨a7, n7, k7, rfl⟩ := h.shape
 rw [hbz] at h ⊢
 have HB := Lib.hid hbz; clear hbz
 have hv := h.view
 have hq0 := schedOkS_seq hb
 have hf := holds_free hb hh
 have hb0 := hb; have Hb := Lib.hid hb; clear hb
 have ht0 := ht; have Ht := Lib.hid ht; clear ht
 have hst0 := hst; have Hst := Lib.hid hst; clear hst
 have hh0 := hh; have Hh := Lib.hid hh; clear hh
 have hn0 := hn; have Hn := Lib.hid hn; clear hn
 have hf0 := hf; have Hf := Lib.hid hf; clear hf
 have hq1 : ¬ (2000 : Int) ≤ s.Seq := by omega
 have hq2 : (s.Seq == 2000) = false := by simpa using hq
 have HQ := Lib.hid hq; clear hq
 have hw9 : IntKind.i64.wrap (s.Seq + 1) = s.Seq + 1 := by rw [IntKind.wrap_i64]; omega
 have E0 : Ext w w := Ext.refl _
 go_enter Tryz.func56, Tryz.ntmps56
 go_wp2_with fail
 refine (sSchedOk_k (h.ext (by exact extT))).mono ?_
 rintro e w1 ⟨rfl, hx1⟩
 have X1 : Ext w w1 := Ext.trans (by exact extT) hx1
 have hz1 := X1.size
 have hy1 := hx1.size; (try simp only [szA] at hy1)
 have KS1 : Blk w1 w.heap.size 32 #[.int .i64 s.Id, .int .i64 s.Seq, .int .i64 s.View.Jobs.Index, .int .i64 s.View.Jobs.Time, .int .i64 s.View.Jobs.Holder, .int .i64 s.View.Jobs.Epoch, .int .i64 s.View.Jobs.Until, .slice a7 n7 k7, .bool false, .int .i64 s.Op.Kind, .int .i64 s.Op.A, .int .i64 s.Op.B, .int .i64 s.Op.C, .int .i64 s.Op.D, .int .i64 s.Index] := Blk.ext bC hx1
 have KR1 : Blk w1 (w.heap.size + 1) 32 #[.int .i64 0, .int .i64 0, .int .i64 0, .int .i64 0, .int .i64 0, .int .i64 0, .int .i64 0, .slice none 0 0, .bool false, .int .i64 0, .int .i64 0, .int .i64 0, .int .i64 0, .int .i64 0, .int .i64 0] := Blk.ext bC hx1
 have E1 : Ext w w1 := E0.trans X1
 clear hx1 X1
 obtain ⟨CS1, FS1, LS1⟩ := KS1.cfl
 obtain ⟨CR1, FR1, LR1⟩ := KR1.cfl
 have hl8 := schedOkS_len hb0; rw [hb0]; clear hb0
 go_wp2_with fail
 refine (l21Copy_k (h.ext (by exact extT)) oM).mono ?_
 rintro e w2 ⟨_, rfl, hx2, FD, gd⟩
 have X2 : Ext w1 w2 := Ext.trans (by exact extT) hx2
 have hz2 := X2.size
 have hy2 := hx2.size; (try simp only [szA] at hy2)
 have KS2 := KS1.exv hx2
 clear KS1
 have KR2 := KR1.exv hx2
 clear KR1
 have E2 : Ext w w2 := E1.trans X2
 clear hx2 X2 E1
 clear CS1 FS1 LS1 CR1 FR1 LR1
 obtain ⟨CS2, FS2, LS2⟩ := KS2.cfl
 obtain ⟨CR2, FR2, LR2⟩ := KR2.cfl
 obtain ⟨t2, rfl, gO, -⟩ := gd
 obtain ⟨ad, nd, kd, rfl⟩ := gO.shape
 rw [HB.out]
 replace gO := OwnI.mono (B' := w.heap.size) gO zT
 go_wp2_with fail
 refine (l16Time_c _ now).mono ?_
 rintro e9 w9 ⟨rfl, rfl⟩
 rw [ht0]; clear ht0
 go_wp2_with fail
 refine (sStaleIn_c _ s.View _ s.Index (hv.ext (by exact extT))).mono ?_
 rintro e w3 ⟨rfl, hx3⟩
 have X3 : Ext w2 w3 := Ext.trans (by exact extT) hx3
 have hz3 := X3.size
 have hy3 := hx3.size; (try simp only [szA] at hy3)
 have KS3 := KS2.exv hx3
 clear KS2
 have KR3 := KR2.exv hx3
 clear KR2
 have KO3 : Blk w3 w2.heap.size 32 #[.int .i64 s.Id, .int .i64 s.Seq, .int .i64 s.View.Jobs.Index, .int .i64 s.View.Jobs.Time, .int .i64 s.View.Jobs.Holder, .int .i64 s.View.Jobs.Epoch, .int .i64 s.View.Jobs.Until, .slice ad nd kd, .bool false, .int .i64 s.Op.Kind, .int .i64 s.Op.A, .int .i64 s.Op.B, .int .i64 s.Op.C, .int .i64 s.Op.D, .int .i64 s.Index] := Blk.ext bC hx3
 have gO := gO.ext X3
 have E3 : Ext w w3 := E2.trans X3
 clear hx3 X3 E2
 clear CS2 FS2 LS2 CR2 FR2 LR2
 obtain ⟨CS3, FS3, LS3⟩ := KS3.cfl
 obtain ⟨CR3, FR3, LR3⟩ := KR3.cfl
 obtain ⟨CO3, FO3, LO3⟩ := KO3.cfl
 rw [hst0]; clear hst0
 go_wp2_with fail
 refine (sNextFire_c _ s.View _ now (hv.ext (by exact extT))).mono ?_
 rintro e w4 ⟨rfl, hx4⟩
 have X4 : Ext w3 w4 := Ext.trans (by exact extT) hx4
 have hz4 := X4.size
 have hy4 := hx4.size; (try simp only [szA] at hy4)
 have KS4 := KS3.exv hx4
 clear KS3
 have KR4 := KR3.exv hx4
 clear KR3
 have KO4 := KO3.exv hx4
 clear KO3
 have KP4 : Blk w4 w3.heap.size 30 #[.int .i64 0, .int .i64 0, .int .i64 0, .int .i64 0, .int .i64 0] := Blk.ext bC hx4
 have gO := gO.ext X4
 have E4 : Ext w w4 := E3.trans X4
 clear hx4 X4 E3
 clear CS3 FS3 LS3 CR3 FR3 LR3 CO3 FO3 LO3
 obtain ⟨CS4, FS4, LS4⟩ := KS4.cfl
 obtain ⟨CR4, FR4, LR4⟩ := KR4.cfl
 obtain ⟨CO4, FO4, LO4⟩ := KO4.cfl
 obtain ⟨CP4, FP4, LP4⟩ := KP4.cfl
 obtain ⟨fi, hfi⟩ : ∃ x, nfId s.View now = x := ⟨_, rfl⟩
 rw [show (dueIds s.View.Jobs.Open (guessOf s.View now)).headD 0 = nfId s.View now from rfl, show decide (0 < (dueIds s.View.Jobs.Open (guessOf s.View now)).length) = nfOk s.View now from rfl, hn0, hfi]; clear hn0
 have HFI := Lib.hid hfi; clear hfi
 go_wp2_with fail
 refine (sHoldsIn_c _ s.View _ s.Id now (hv.ext (by exact extT))).mono ?_
 rintro e w5 ⟨rfl, hx5⟩
 have X5 : Ext w4 w5 := Ext.trans (by exact extT) hx5
 have hz5 := X5.size
 have hy5 := hx5.size; (try simp only [szA] at hy5)
 have KS5 := KS4.exv hx5
 clear KS4
 have KR5 := KR4.exv hx5
 clear KR4
 have KO5 := KO4.exv hx5
 clear KO4
 have KP5 := KP4.exv hx5
 clear KP4
 have gO := gO.ext X5
 have E5 : Ext w w5 := E4.trans X5
 clear hx5 X5 E4
 clear CS4 FS4 LS4 CR4 FR4 LR4 CO4 FO4 LO4 CP4 FP4 LP4
 obtain ⟨CS5, FS5, LS5⟩ := KS5.cfl
 obtain ⟨CR5, FR5, LR5⟩ := KR5.cfl
 obtain ⟨CO5, FO5, LO5⟩ := KO5.cfl
 obtain ⟨CP5, FP5, LP5⟩ := KP5.cfl
 rw [hh0]; clear hh0
 go_wp2_with fail
 refine bodyPost_ret (by simp [results, Tryz.results56, go_sem, CS5, FS5, LS5, CR5, FR5, LR5, CO5, FO5, LO5, CP5, FP5, LP5]; try rfl) rfl ?_
 have eA : decided s now = ⟨s.Id, s.Seq + 1, s.View, true, ⟨4, fi, s.View.Jobs.Epoch, 0, 0⟩, s.Index⟩ := by rw [← HFI.out]; exact dec_some Hb.out (no_fire Ht.out HB.out HQ.out Hst.out Hh.out Hn.out)
 rw [eA]; clear eA
 exact ⟨_, rfl, by exact extT, _, _, (by first | rfl | (rw [hw9]; rfl)), (by exact ownS), rfl⟩
theorem sDecided_k_hold {w : World} {v : Value} {s : DSched} (h : RdSched w v s) {now : Int} (hb : schedOkS s = true) (ht : timeOk now = true) (hbz : s.Busy = false) (hq : s.Seq ≠ 2000) (hst : staleIn s.View s.Index = false) (hh : holdsIn s.View s.Id now = true) (hn : nfOk s.View now = false) : Calls Tryz.prog 56 #[v, .int .i64 now] w (Ret w fun r w' => ∃ F, OwSched w.heap.size w' r (decided s now) F) := by
 obtain ⟨a7, n7, k7, rfl⟩ := h.shape
 rw [hbz] at h ⊢
 have HB := Lib.hid hbz; clear hbz
 have hv := h.view
 have hq0 := schedOkS_seq hb
 have hf := holds_free hb hh
 have hb0 := hb; have Hb := Lib.hid hb; clear hb
 have ht0 := ht; have Ht := Lib.hid ht; clear ht
 have hst0 := hst; have Hst := Lib.hid hst; clear hst
 have hh0 := hh; have Hh := Lib.hid hh; clear hh
 have hn0 := hn; have Hn := Lib.hid hn; clear hn
 have hf0 := hf; have Hf := Lib.hid hf; clear hf
 have hq1 : ¬ (2000 : Int) ≤ s.Seq := by omega
 have hq2 : (s.Seq == 2000) = false := by simpa using hq
 have HQ := Lib.hid hq; clear hq
 have hw9 : IntKind.i64.wrap (s.Seq + 1) = s.Seq + 1 := by rw [IntKind.wrap_i64]; omega
 have E0 : Ext w w := Ext.refl _
 go_enter Tryz.func56, Tryz.ntmps56
 go_wp2_with fail
 refine (sSchedOk_k (h.ext (by exact extT))).mono ?_
 rintro e w1 ⟨rfl, hx1⟩
 have X1 : Ext w w1 := Ext.trans (by exact extT) hx1
 have hz1 := X1.size
 have hy1 := hx1.size; (try simp only [szA] at hy1)
 have KS1 : Blk w1 w.heap.size 32 #[.int .i64 s.Id, .int .i64 s.Seq, .int .i64 s.View.Jobs.Index, .int .i64 s.View.Jobs.Time, .int .i64 s.View.Jobs.Holder, .int .i64 s.View.Jobs.Epoch, .int .i64 s.View.Jobs.Until, .slice a7 n7 k7, .bool false, .int .i64 s.Op.Kind, .int .i64 s.Op.A, .int .i64 s.Op.B, .int .i64 s.Op.C, .int .i64 s.Op.D, .int .i64 s.Index] := Blk.ext bC hx1
 have KR1 : Blk w1 (w.heap.size + 1) 32 #[.int .i64 0, .int .i64 0, .int .i64 0, .int .i64 0, .int .i64 0, .int .i64 0, .int .i64 0, .slice none 0 0, .bool false, .int .i64 0, .int .i64 0, .int .i64 0, .int .i64 0, .int .i64 0, .int .i64 0] := Blk.ext bC hx1
 have E1 : Ext w w1 := E0.trans X1
 clear hx1 X1
 obtain ⟨CS1, FS1, LS1⟩ := KS1.cfl
 obtain ⟨CR1, FR1, LR1⟩ := KR1.cfl
 have hl8 := schedOkS_len hb0; rw [hb0]; clear hb0
 go_wp2_with fail
 refine (l21Copy_k (h.ext (by exact extT)) oM).mono ?_
 rintro e w2 ⟨_, rfl, hx2, FD, gd⟩
 have X2 : Ext w1 w2 := Ext.trans (by exact extT) hx2
 have hz2 := X2.size
 have hy2 := hx2.size; (try simp only [szA] at hy2)
 have KS2 := KS1.exv hx2
 clear KS1
 have KR2 := KR1.exv hx2
 clear KR1
 have E2 : Ext w w2 := E1.trans X2
 clear hx2 X2 E1
 clear CS1 FS1 LS1 CR1 FR1 LR1
 obtain ⟨CS2, FS2, LS2⟩ := KS2.cfl
 obtain ⟨CR2, FR2, LR2⟩ := KR2.cfl
 obtain ⟨t2, rfl, gO, -⟩ := gd
 obtain ⟨ad, nd, kd, rfl⟩ := gO.shape
 rw [HB.out]
 replace gO := OwnI.mono (B' := w.heap.size) gO zT
 go_wp2_with fail
 refine (l16Time_c _ now).mono ?_
 rintro e9 w9 ⟨rfl, rfl⟩
 rw [ht0]; clear ht0
 go_wp2_with fail
 refine (sStaleIn_c _ s.View _ s.Index (hv.ext (by exact extT))).mono ?_
 rintro e w3 ⟨rfl, hx3⟩
 have X3 : Ext w2 w3 := Ext.trans (by exact extT) hx3
 have hz3 := X3.size
 have hy3 := hx3.size; (try simp only [szA] at hy3)
 have KS3 := KS2.exv hx3
 clear KS2
 have KR3 := KR2.exv hx3
 clear KR2
 have KO3 : Blk w3 w2.heap.size 32 #[.int .i64 s.Id, .int .i64 s.Seq, .int .i64 s.View.Jobs.Index, .int .i64 s.View.Jobs.Time, .int .i64 s.View.Jobs.Holder, .int .i64 s.View.Jobs.Epoch, .int .i64 s.View.Jobs.Until, .slice ad nd kd, .bool false, .int .i64 s.Op.Kind, .int .i64 s.Op.A, .int .i64 s.Op.B, .int .i64 s.Op.C, .int .i64 s.Op.D, .int .i64 s.Index] := Blk.ext bC hx3
 have gO := gO.ext X3
 have E3 : Ext w w3 := E2.trans X3
 clear hx3 X3 E2
 clear CS2 FS2 LS2 CR2 FR2 LR2
 obtain ⟨CS3, FS3, LS3⟩ := KS3.cfl
 obtain ⟨CR3, FR3, LR3⟩ := KR3.cfl
 obtain ⟨CO3, FO3, LO3⟩ := KO3.cfl
 rw [hst0]; clear hst0
 go_wp2_with fail
 refine (sNextFire_c _ s.View _ now (hv.ext (by exact extT))).mono ?_
 rintro e w4 ⟨rfl, hx4⟩
 have X4 : Ext w3 w4 := Ext.trans (by exact extT) hx4
 have hz4 := X4.size
 have hy4 := hx4.size; (try simp only [szA] at hy4)
 have KS4 := KS3.exv hx4
 clear KS3
 have KR4 := KR3.exv hx4
 clear KR3
 have KO4 := KO3.exv hx4
 clear KO3
 have KP4 : Blk w4 w3.heap.size 30 #[.int .i64 0, .int .i64 0, .int .i64 0, .int .i64 0, .int .i64 0] := Blk.ext bC hx4
 have gO := gO.ext X4
 have E4 : Ext w w4 := E3.trans X4
 clear hx4 X4 E3
 clear CS3 FS3 LS3 CR3 FR3 LR3 CO3 FO3 LO3
 obtain ⟨CS4, FS4, LS4⟩ := KS4.cfl
 obtain ⟨CR4, FR4, LR4⟩ := KR4.cfl
 obtain ⟨CO4, FO4, LO4⟩ := KO4.cfl
 obtain ⟨CP4, FP4, LP4⟩ := KP4.cfl
 obtain ⟨fi, hfi⟩ : ∃ x, nfId s.View now = x := ⟨_, rfl⟩
 rw [show (dueIds s.View.Jobs.Open (guessOf s.View now)).headD 0 = nfId s.View now from rfl, show decide (0 < (dueIds s.View.Jobs.Open (guessOf s.View now)).length) = nfOk s.View now from rfl, hn0, hfi]; clear hn0
 have HFI := Lib.hid hfi; clear hfi
 go_wp2_with fail
 refine (sHoldsIn_c _ s.View _ s.Id now (hv.ext (by exact extT))).mono ?_
 rintro e w5 ⟨rfl, hx5⟩
 have X5 : Ext w4 w5 := Ext.trans (by exact extT) hx5
 have hz5 := X5.size
 have hy5 := hx5.size; (try simp only [szA] at hy5)
 have KS5 := KS4.exv hx5
 clear KS4
 have KR5 := KR4.exv hx5
 clear KR4
 have KO5 := KO4.exv hx5
 clear KO4
 have KP5 := KP4.exv hx5
 clear KP4
 have gO := gO.ext X5
 have E5 : Ext w w5 := E4.trans X5
 clear hx5 X5 E4
 clear CS4 FS4 LS4 CR4 FR4 LR4 CO4 FO4 LO4 CP4 FP4 LP4
 obtain ⟨CS5, FS5, LS5⟩ := KS5.cfl
 obtain ⟨CR5, FR5, LR5⟩ := KR5.cfl
 obtain ⟨CO5, FO5, LO5⟩ := KO5.cfl
 obtain ⟨CP5, FP5, LP5⟩ := KP5.cfl
 rw [hh0]; clear hh0
 go_wp2_with fail
 refine (sFreeIn_c _ s.View _ now (hv.ext (by exact extT))).mono ?_
 rintro e w6 ⟨rfl, hx6⟩
 have X6 : Ext w5 w6 := Ext.trans (by exact extT) hx6
 have hz6 := X6.size
 have hy6 := hx6.size; (try simp only [szA] at hy6)
 have KS6 := KS5.exv hx6
 clear KS5
 have KR6 := KR5.exv hx6
 clear KR5
 have KO6 := KO5.exv hx6
 clear KO5
 have KP6 := KP5.exv hx6
 clear KP5
 have gO := gO.ext X6
 have E6 : Ext w w6 := E5.trans X6
 clear hx6 X6 E5
 clear CS5 FS5 LS5 CR5 FR5 LR5 CO5 FO5 LO5 CP5 FP5 LP5
 obtain ⟨CS6, FS6, LS6⟩ := KS6.cfl
 obtain ⟨CR6, FR6, LR6⟩ := KR6.cfl
 obtain ⟨CO6, FO6, LO6⟩ := KO6.cfl
 obtain ⟨CP6, FP6, LP6⟩ := KP6.cfl
 rw [hf0]; clear hf0
 go_wp2_with fail
 refine bodyPost_ret (by simp [results, Tryz.results56, go_sem, CS6, FS6, LS6, CR6, FR6, LR6, CO6, FO6, LO6, CP6, FP6, LP6]; try rfl) rfl ?_
 have eA : decided s now = s := dec_same Hb.out (no_hold Ht.out HB.out HQ.out Hst.out Hh.out Hn.out)
 rw [eA]; clear eA
 exact ⟨_, rfl, by exact extT, _, _, (by first | rfl | (rw [HB.out])), (by exact ownS), rfl⟩
end Go.Proofs.YtfhaooaajpopmaaGreat
