/- Contracts and plain laws: AHs1. -/
import Derived.Test.YtfhaooaajpopmaaGreatMa
import Derived.Test.YtfhaooaajpopmaaGreatMx
set_option linter.unusedSimpArgs false
set_option linter.unusedVariables false
set_option maxHeartbeats 8000000
set_option maxRecDepth 100000
namespace Go.Proofs.YtfhaooaajpopmaaGreat
open Go.RowKit Go.G8
theorem sAckHeard_k_bad {w : World} {v : Value} {s : DSched} (h : RdSched w v s) {a0 a1 a2 a3 : Int} (hb : schedOkS s = false) : Calls Tryz.prog 6 #[v, .agg #[.int .i64 a0, .int .i64 a1, .int .i64 a2, .int .i64 a3]] w (Ret w fun r w' => ∃ F, OwSched w.heap.size w' r (ackHeard s ⟨a0, a1, a2, a3⟩) F) := by
 obtain ⟨a7, n7, k7, rfl⟩ := h.shape
 obtain ⟨bz, hbz⟩ : ∃ b : Bool, s.Busy = b := ⟨_, rfl⟩
 rw [hbz] at h ⊢
 have HB := Lib.hid hbz; clear hbz
 have hb0 := hb; have Hb := Lib.hid hb; clear hb
 have E0 : Ext w w := Ext.refl _
 go_enter Tryz.func6, Tryz.ntmps6
 go_wp2_with fail
 refine (sSchedOk_k (h.ext (by exact extT))).mono ?_
 rintro e w1 ⟨rfl, hx1⟩
 have X1 : Ext w w1 := Ext.trans (by exact extT) hx1
 have hz1 := X1.size
 have hy1 := hx1.size; (try simp only [szA] at hy1)
 have KS1 : Blk w1 w.heap.size 32 #[.int .i64 s.Id, .int .i64 s.Seq, .int .i64 s.View.Jobs.Index, .int .i64 s.View.Jobs.Time, .int .i64 s.View.Jobs.Holder, .int .i64 s.View.Jobs.Epoch, .int .i64 s.View.Jobs.Until, .slice a7 n7 k7, .bool bz, .int .i64 s.Op.Kind, .int .i64 s.Op.A, .int .i64 s.Op.B, .int .i64 s.Op.C, .int .i64 s.Op.D, .int .i64 s.Index] := Blk.ext bC hx1
 have KA1 : Blk w1 (w.heap.size + 1) 34 #[.int .i64 a0, .int .i64 a1, .int .i64 a2, .int .i64 a3] := Blk.ext bC hx1
 have KR1 : Blk w1 (w.heap.size + 1 + 1) 32 #[.int .i64 0, .int .i64 0, .int .i64 0, .int .i64 0, .int .i64 0, .int .i64 0, .int .i64 0, .slice none 0 0, .bool false, .int .i64 0, .int .i64 0, .int .i64 0, .int .i64 0, .int .i64 0, .int .i64 0] := Blk.ext bC hx1
 have E1 : Ext w w1 := E0.trans X1
 clear hx1 X1
 obtain ⟨CS1, FS1, LS1⟩ := KS1.cfl
 obtain ⟨CA1, FA1, LA1⟩ := KA1.cfl
 obtain ⟨CR1, FR1, LR1⟩ := KR1.cfl
 rw [hb0]
 go_wp2_with fail
 refine bodyPost_ret (by simp [results, Tryz.results6, go_sem, CS1, FS1, LS1, CA1, FA1, LA1, CR1, FR1, LR1]; try rfl) rfl ?_
 have eA : ackHeard s ⟨a0, a1, a2, a3⟩ = zSched := by simp [ackHeard, Hb.out]
 rw [eA]; clear eA
 exact ⟨_, rfl, by exact extT, _, .slice none 0 0, rfl, OwnI.nil _ _ _ _, rfl⟩
theorem sAckHeard_k_ne1 {w : World} {v : Value} {s : DSched} (h : RdSched w v s) {a0 a1 a2 a3 : Int} (hb : schedOkS s = true) (ha : ackOk (⟨a0, a1, a2, a3⟩ : DAck) = false) : Calls Tryz.prog 6 #[v, .agg #[.int .i64 a0, .int .i64 a1, .int .i64 a2, .int .i64 a3]] w (Ret w fun r w' => ∃ F, OwSched w.heap.size w' r (ackHeard s ⟨a0, a1, a2, a3⟩) F) := by
 obtain ⟨a7, n7, k7, rfl⟩ := h.shape
 obtain ⟨bz, hbz⟩ : ∃ b : Bool, s.Busy = b := ⟨_, rfl⟩
 rw [hbz] at h ⊢
 have HB := Lib.hid hbz; clear hbz
 have hb0 := hb; have Hb := Lib.hid hb; clear hb
 have ha0 := ha; have Ha := Lib.hid ha; clear ha
 have E0 : Ext w w := Ext.refl _
 go_enter Tryz.func6, Tryz.ntmps6
 go_wp2_with fail
 refine (sSchedOk_k (h.ext (by exact extT))).mono ?_
 rintro e w1 ⟨rfl, hx1⟩
 have X1 : Ext w w1 := Ext.trans (by exact extT) hx1
 have hz1 := X1.size
 have hy1 := hx1.size; (try simp only [szA] at hy1)
 have KS1 : Blk w1 w.heap.size 32 #[.int .i64 s.Id, .int .i64 s.Seq, .int .i64 s.View.Jobs.Index, .int .i64 s.View.Jobs.Time, .int .i64 s.View.Jobs.Holder, .int .i64 s.View.Jobs.Epoch, .int .i64 s.View.Jobs.Until, .slice a7 n7 k7, .bool bz, .int .i64 s.Op.Kind, .int .i64 s.Op.A, .int .i64 s.Op.B, .int .i64 s.Op.C, .int .i64 s.Op.D, .int .i64 s.Index] := Blk.ext bC hx1
 have KA1 : Blk w1 (w.heap.size + 1) 34 #[.int .i64 a0, .int .i64 a1, .int .i64 a2, .int .i64 a3] := Blk.ext bC hx1
 have KR1 : Blk w1 (w.heap.size + 1 + 1) 32 #[.int .i64 0, .int .i64 0, .int .i64 0, .int .i64 0, .int .i64 0, .int .i64 0, .int .i64 0, .slice none 0 0, .bool false, .int .i64 0, .int .i64 0, .int .i64 0, .int .i64 0, .int .i64 0, .int .i64 0] := Blk.ext bC hx1
 have E1 : Ext w w1 := E0.trans X1
 clear hx1 X1
 obtain ⟨CS1, FS1, LS1⟩ := KS1.cfl
 obtain ⟨CA1, FA1, LA1⟩ := KA1.cfl
 obtain ⟨CR1, FR1, LR1⟩ := KR1.cfl
 rw [hb0]
 have hl8 := schedOkS_len hb0; clear hb0
 go_wp2_with fail
 refine (l21Copy_k (h.ext (by exact extT)) oM).mono ?_
 rintro e w2 ⟨_, rfl, hx2, FD, gd⟩
 have X2 : Ext w1 w2 := Ext.trans (by exact extT) hx2
 have hz2 := X2.size
 have hy2 := hx2.size; (try simp only [szA] at hy2)
 have KS2 := KS1.exv hx2
 clear KS1
 have KA2 := KA1.exv hx2
 clear KA1
 have KR2 := KR1.exv hx2
 clear KR1
 have E2 : Ext w w2 := E1.trans X2
 clear hx2 X2 E1
 clear CS1 FS1 LS1 CA1 FA1 LA1 CR1 FR1 LR1
 obtain ⟨CS2, FS2, LS2⟩ := KS2.cfl
 obtain ⟨CA2, FA2, LA2⟩ := KA2.cfl
 obtain ⟨CR2, FR2, LR2⟩ := KR2.cfl
 obtain ⟨t2, rfl, gO, -⟩ := gd
 obtain ⟨ad, nd, kd, rfl⟩ := gO.shape
 rw [HB.out]
 replace gO := OwnI.mono (B' := w.heap.size) gO zT
 go_wp2_with fail
 refine (sAckOk_c _ a0 a1 a2 a3).mono ?_
 rintro e w3 ⟨rfl, hx3⟩
 have X3 : Ext w2 w3 := Ext.trans (by exact extT) hx3
 have hz3 := X3.size
 have hy3 := hx3.size; (try simp only [szA] at hy3)
 have KS3 := KS2.exv hx3
 clear KS2
 have KA3 := KA2.exv hx3
 clear KA2
 have KR3 := KR2.exv hx3
 clear KR2
 have KO3 : Blk w3 w2.heap.size 32 #[.int .i64 s.Id, .int .i64 s.Seq, .int .i64 s.View.Jobs.Index, .int .i64 s.View.Jobs.Time, .int .i64 s.View.Jobs.Holder, .int .i64 s.View.Jobs.Epoch, .int .i64 s.View.Jobs.Until, .slice ad nd kd, .bool bz, .int .i64 s.Op.Kind, .int .i64 s.Op.A, .int .i64 s.Op.B, .int .i64 s.Op.C, .int .i64 s.Op.D, .int .i64 s.Index] := Blk.ext bC hx3
 have gO := gO.ext X3
 have E3 : Ext w w3 := E2.trans X3
 clear hx3 X3 E2
 clear CS2 FS2 LS2 CA2 FA2 LA2 CR2 FR2 LR2
 obtain ⟨CS3, FS3, LS3⟩ := KS3.cfl
 obtain ⟨CA3, FA3, LA3⟩ := KA3.cfl
 obtain ⟨CR3, FR3, LR3⟩ := KR3.cfl
 obtain ⟨CO3, FO3, LO3⟩ := KO3.cfl
 rw [ha0]; clear ha0
 go_wp2_with fail
 refine bodyPost_ret (by simp [results, Tryz.results6, go_sem, CS3, FS3, LS3, CA3, FA3, LA3, CR3, FR3, LR3, CO3, FO3, LO3]; try rfl) rfl ?_
 have eA : ackHeard s ⟨a0, a1, a2, a3⟩ = s := ack_ne Hb.out (.inl Ha.out)
 rw [eA]; clear eA
 exact ⟨_, rfl, by exact extT, _, _, (by first | rfl | (rw [HB.out])), (by exact ownS), rfl⟩
theorem sAckHeard_k_ne2 {w : World} {v : Value} {s : DSched} (h : RdSched w v s) {a0 a1 a2 a3 : Int} (hb : schedOkS s = true) (ha : ackOk (⟨a0, a1, a2, a3⟩ : DAck) = true) (hc : a0 ≠ s.Id) : Calls Tryz.prog 6 #[v, .agg #[.int .i64 a0, .int .i64 a1, .int .i64 a2, .int .i64 a3]] w (Ret w fun r w' => ∃ F, OwSched w.heap.size w' r (ackHeard s ⟨a0, a1, a2, a3⟩) F) := by
 obtain ⟨a7, n7, k7, rfl⟩ := h.shape
 obtain ⟨bz, hbz⟩ : ∃ b : Bool, s.Busy = b := ⟨_, rfl⟩
 rw [hbz] at h ⊢
 have HB := Lib.hid hbz; clear hbz
 have hb0 := hb; have Hb := Lib.hid hb; clear hb
 have ha0 := ha; have Ha := Lib.hid ha; clear ha
 have hc1 : (a0 == s.Id) = false := by simpa using hc
 have hc2 : (a0 != s.Id) = true := by simpa using hc
 have HC := Lib.hid hc; clear hc
 have E0 : Ext w w := Ext.refl _
 go_enter Tryz.func6, Tryz.ntmps6
 go_wp2_with fail
 refine (sSchedOk_k (h.ext (by exact extT))).mono ?_
 rintro e w1 ⟨rfl, hx1⟩
 have X1 : Ext w w1 := Ext.trans (by exact extT) hx1
 have hz1 := X1.size
 have hy1 := hx1.size; (try simp only [szA] at hy1)
 have KS1 : Blk w1 w.heap.size 32 #[.int .i64 s.Id, .int .i64 s.Seq, .int .i64 s.View.Jobs.Index, .int .i64 s.View.Jobs.Time, .int .i64 s.View.Jobs.Holder, .int .i64 s.View.Jobs.Epoch, .int .i64 s.View.Jobs.Until, .slice a7 n7 k7, .bool bz, .int .i64 s.Op.Kind, .int .i64 s.Op.A, .int .i64 s.Op.B, .int .i64 s.Op.C, .int .i64 s.Op.D, .int .i64 s.Index] := Blk.ext bC hx1
 have KA1 : Blk w1 (w.heap.size + 1) 34 #[.int .i64 a0, .int .i64 a1, .int .i64 a2, .int .i64 a3] := Blk.ext bC hx1
 have KR1 : Blk w1 (w.heap.size + 1 + 1) 32 #[.int .i64 0, .int .i64 0, .int .i64 0, .int .i64 0, .int .i64 0, .int .i64 0, .int .i64 0, .slice none 0 0, .bool false, .int .i64 0, .int .i64 0, .int .i64 0, .int .i64 0, .int .i64 0, .int .i64 0] := Blk.ext bC hx1
 have E1 : Ext w w1 := E0.trans X1
 clear hx1 X1
 obtain ⟨CS1, FS1, LS1⟩ := KS1.cfl
 obtain ⟨CA1, FA1, LA1⟩ := KA1.cfl
 obtain ⟨CR1, FR1, LR1⟩ := KR1.cfl
 rw [hb0]
 have hl8 := schedOkS_len hb0; clear hb0
 go_wp2_with fail
 refine (l21Copy_k (h.ext (by exact extT)) oM).mono ?_
 rintro e w2 ⟨_, rfl, hx2, FD, gd⟩
 have X2 : Ext w1 w2 := Ext.trans (by exact extT) hx2
 have hz2 := X2.size
 have hy2 := hx2.size; (try simp only [szA] at hy2)
 have KS2 := KS1.exv hx2
 clear KS1
 have KA2 := KA1.exv hx2
 clear KA1
 have KR2 := KR1.exv hx2
 clear KR1
 have E2 : Ext w w2 := E1.trans X2
 clear hx2 X2 E1
 clear CS1 FS1 LS1 CA1 FA1 LA1 CR1 FR1 LR1
 obtain ⟨CS2, FS2, LS2⟩ := KS2.cfl
 obtain ⟨CA2, FA2, LA2⟩ := KA2.cfl
 obtain ⟨CR2, FR2, LR2⟩ := KR2.cfl
 obtain ⟨t2, rfl, gO, -⟩ := gd
 obtain ⟨ad, nd, kd, rfl⟩ := gO.shape
 rw [HB.out]
 replace gO := OwnI.mono (B' := w.heap.size) gO zT
 go_wp2_with fail
 refine (sAckOk_c _ a0 a1 a2 a3).mono ?_
 rintro e w3 ⟨rfl, hx3⟩
 have X3 : Ext w2 w3 := Ext.trans (by exact extT) hx3
 have hz3 := X3.size
 have hy3 := hx3.size; (try simp only [szA] at hy3)
 have KS3 := KS2.exv hx3
 clear KS2
 have KA3 := KA2.exv hx3
 clear KA2
 have KR3 := KR2.exv hx3
 clear KR2
 have KO3 : Blk w3 w2.heap.size 32 #[.int .i64 s.Id, .int .i64 s.Seq, .int .i64 s.View.Jobs.Index, .int .i64 s.View.Jobs.Time, .int .i64 s.View.Jobs.Holder, .int .i64 s.View.Jobs.Epoch, .int .i64 s.View.Jobs.Until, .slice ad nd kd, .bool bz, .int .i64 s.Op.Kind, .int .i64 s.Op.A, .int .i64 s.Op.B, .int .i64 s.Op.C, .int .i64 s.Op.D, .int .i64 s.Index] := Blk.ext bC hx3
 have gO := gO.ext X3
 have E3 : Ext w w3 := E2.trans X3
 clear hx3 X3 E2
 clear CS2 FS2 LS2 CA2 FA2 LA2 CR2 FR2 LR2
 obtain ⟨CS3, FS3, LS3⟩ := KS3.cfl
 obtain ⟨CA3, FA3, LA3⟩ := KA3.cfl
 obtain ⟨CR3, FR3, LR3⟩ := KR3.cfl
 obtain ⟨CO3, FO3, LO3⟩ := KO3.cfl
 rw [ha0]; clear ha0
 go_wp2_with fail
 refine bodyPost_ret (by simp [results, Tryz.results6, go_sem, CS3, FS3, LS3, CA3, FA3, LA3, CR3, FR3, LR3, CO3, FO3, LO3]; try rfl) rfl ?_
 have eA : ackHeard s ⟨a0, a1, a2, a3⟩ = s := ack_ne Hb.out (.inr HC.out)
 rw [eA]; clear eA
 exact ⟨_, rfl, by exact extT, _, _, (by first | rfl | (rw [HB.out])), (by exact ownS), rfl⟩
theorem sAckHeard_k_hit {w : World} {v : Value} {s : DSched} (h : RdSched w v s) {a0 a1 a2 a3 : Int} (hb : schedOkS s = true) (ha : ackOk (⟨a0, a1, a2, a3⟩ : DAck) = true) (hc : a0 = s.Id) (hbz : s.Busy = true) (hq : a1 = s.Seq) (hz : a2 ≠ 0) : Calls Tryz.prog 6 #[v, .agg #[.int .i64 a0, .int .i64 a1, .int .i64 a2, .int .i64 a3]] w (Ret w fun r w' => ∃ F, OwSched w.heap.size w' r (ackHeard s ⟨a0, a1, a2, a3⟩) F) := by
 obtain ⟨a7, n7, k7, rfl⟩ := h.shape
 rw [hbz] at h ⊢
 have HB := Lib.hid hbz; clear hbz
 have hb0 := hb; have Hb := Lib.hid hb; clear hb
 have ha0 := ha; have Ha := Lib.hid ha; clear ha
 have hc1 : (a0 == s.Id) = true := by simpa using hc
 have hc2 : (a0 != s.Id) = false := by simpa using hc
 have HC := Lib.hid hc; clear hc
 have hq1 : (a1 == s.Seq) = true := by simpa using hq
 have HQ := Lib.hid hq; clear hq
 have hz1 : (a2 != 0) = true := by simpa using hz
 have hz2 : 0 < a2 := by have := ackOk_index ha0; simp only [] at this; omega
 have HZ := Lib.hid hz; clear hz
 have E0 : Ext w w := Ext.refl _
 go_enter Tryz.func6, Tryz.ntmps6
 go_wp2_with fail
 refine (sSchedOk_k (h.ext (by exact extT))).mono ?_
 rintro e w1 ⟨rfl, hx1⟩
 have X1 : Ext w w1 := Ext.trans (by exact extT) hx1
 have hz1 := X1.size
 have hy1 := hx1.size; (try simp only [szA] at hy1)
 have KS1 : Blk w1 w.heap.size 32 #[.int .i64 s.Id, .int .i64 s.Seq, .int .i64 s.View.Jobs.Index, .int .i64 s.View.Jobs.Time, .int .i64 s.View.Jobs.Holder, .int .i64 s.View.Jobs.Epoch, .int .i64 s.View.Jobs.Until, .slice a7 n7 k7, .bool true, .int .i64 s.Op.Kind, .int .i64 s.Op.A, .int .i64 s.Op.B, .int .i64 s.Op.C, .int .i64 s.Op.D, .int .i64 s.Index] := Blk.ext bC hx1
 have KA1 : Blk w1 (w.heap.size + 1) 34 #[.int .i64 a0, .int .i64 a1, .int .i64 a2, .int .i64 a3] := Blk.ext bC hx1
 have KR1 : Blk w1 (w.heap.size + 1 + 1) 32 #[.int .i64 0, .int .i64 0, .int .i64 0, .int .i64 0, .int .i64 0, .int .i64 0, .int .i64 0, .slice none 0 0, .bool false, .int .i64 0, .int .i64 0, .int .i64 0, .int .i64 0, .int .i64 0, .int .i64 0] := Blk.ext bC hx1
 have E1 : Ext w w1 := E0.trans X1
 clear hx1 X1
 obtain ⟨CS1, FS1, LS1⟩ := KS1.cfl
 obtain ⟨CA1, FA1, LA1⟩ := KA1.cfl
 obtain ⟨CR1, FR1, LR1⟩ := KR1.cfl
 rw [hb0]
 have hl8 := schedOkS_len hb0; clear hb0
 go_wp2_with fail
 refine (l21Copy_k (h.ext (by exact extT)) oM).mono ?_
 rintro e w2 ⟨_, rfl, hx2, FD, gd⟩
 have X2 : Ext w1 w2 := Ext.trans (by exact extT) hx2
 have hz2 := X2.size
 have hy2 := hx2.size; (try simp only [szA] at hy2)
 have KS2 := KS1.exv hx2
 clear KS1
 have KA2 := KA1.exv hx2
 clear KA1
 have KR2 := KR1.exv hx2
 clear KR1
 have E2 : Ext w w2 := E1.trans X2
 clear hx2 X2 E1
 clear CS1 FS1 LS1 CA1 FA1 LA1 CR1 FR1 LR1
 obtain ⟨CS2, FS2, LS2⟩ := KS2.cfl
 obtain ⟨CA2, FA2, LA2⟩ := KA2.cfl
 obtain ⟨CR2, FR2, LR2⟩ := KR2.cfl
 obtain ⟨t2, rfl, gO, -⟩ := gd
 obtain ⟨ad, nd, kd, rfl⟩ := gO.shape
 rw [HB.out]
 replace gO := OwnI.mono (B' := w.heap.size) gO zT
 go_wp2_with fail
 refine (sAckOk_c _ a0 a1 a2 a3).mono ?_
 rintro e w3 ⟨rfl, hx3⟩
 have X3 : Ext w2 w3 := Ext.trans (by exact extT) hx3
 have hz3 := X3.size
 have hy3 := hx3.size; (try simp only [szA] at hy3)
 have KS3 := KS2.exv hx3
 clear KS2
 have KA3 := KA2.exv hx3
 clear KA2
 have KR3 := KR2.exv hx3
 clear KR2
 have KO3 : Blk w3 w2.heap.size 32 #[.int .i64 s.Id, .int .i64 s.Seq, .int .i64 s.View.Jobs.Index, .int .i64 s.View.Jobs.Time, .int .i64 s.View.Jobs.Holder, .int .i64 s.View.Jobs.Epoch, .int .i64 s.View.Jobs.Until, .slice ad nd kd, .bool true, .int .i64 s.Op.Kind, .int .i64 s.Op.A, .int .i64 s.Op.B, .int .i64 s.Op.C, .int .i64 s.Op.D, .int .i64 s.Index] := Blk.ext bC hx3
 have gO := gO.ext X3
 have E3 : Ext w w3 := E2.trans X3
 clear hx3 X3 E2
 clear CS2 FS2 LS2 CA2 FA2 LA2 CR2 FR2 LR2
 obtain ⟨CS3, FS3, LS3⟩ := KS3.cfl
 obtain ⟨CA3, FA3, LA3⟩ := KA3.cfl
 obtain ⟨CR3, FR3, LR3⟩ := KR3.cfl
 obtain ⟨CO3, FO3, LO3⟩ := KO3.cfl
 rw [ha0]; clear ha0
 go_wp2_with fail
 refine bodyPost_ret (by simp [results, Tryz.results6, go_sem, CS3, FS3, LS3, CA3, FA3, LA3, CR3, FR3, LR3, CO3, FO3, LO3]; try rfl) rfl ?_
 have eA : ackHeard s ⟨a0, a1, a2, a3⟩ = ⟨s.Id, s.Seq, s.View, false, ⟨0, 0, 0, 0, 0⟩, a2⟩ := ack_hit Hb.out Ha.out HC.out HB.out HQ.out HZ.out
 rw [eA]; clear eA
 exact ⟨_, rfl, by exact extT, _, _, (by first | rfl | (rw [HB.out])), (by exact ownS), rfl⟩
end Go.Proofs.YtfhaooaajpopmaaGreat
