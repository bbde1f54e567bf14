/- Contracts and plain laws: DE DEs1. -/
import Derived.Test.YtfhaooaajpopmaaGreatMa
import Derived.Test.YtfhaooaajpopmaaGreatMx
import Derived.Test.YtfhaooaajpopmaaGreatMw
set_option linter.unusedSimpArgs false
set_option linter.unusedVariables false
set_option maxHeartbeats 8000000
set_option maxRecDepth 100000
namespace Go.Proofs.YtfhaooaajpopmaaGreat
open Go.RowKit Go.G8
theorem dec_bad {s : DSched} {now : Int} (hb : schedOkS s = false) : decided s now = zSched := by
 unfold decided; rw [hb]; rfl
theorem dec_same {s : DSched} {now : Int} (hb : schedOkS s = true) (h : nextOp s now = none) : decided s now = s := by
 unfold decided; rw [if_pos hb, h]
theorem dec_some {s : DSched} {now : Int} {o : DOp} (hb : schedOkS s = true) (h : nextOp s now = some o) : decided s now = ⟨s.Id, s.Seq + 1, s.View, true, o, s.Index⟩ := by
 unfold decided; rw [if_pos hb, h]
theorem no_head {s : DSched} {now : Int} (h : timeOk now = false ∨ s.Busy = true ∨ s.Seq = 2000 ∨ staleIn s.View s.Index = true) : nextOp s now = none := by
 have e1 : (!timeOk now || (s.Busy || (decide (s.Seq = 2000) || staleIn s.View s.Index))) = true := by
  rcases h with h | h | h | h <;> simp [h]
 unfold nextOp
 rw [if_pos e1]
theorem no_rest {s : DSched} {now : Int} (h1 : timeOk now = true) (h2 : s.Busy = false) (h3 : s.Seq ≠ 2000) (h4 : staleIn s.View s.Index = false) : nextOp s now = if holdsIn s.View s.Id now then (if nfOk s.View now then some ⟨4, nfId s.View now, s.View.Jobs.Epoch, 0, 0⟩ else none) else if freeIn s.View now then some ⟨5, 20, 0, 0, 0⟩ else none := by
 have e1 : (!timeOk now || (s.Busy || (decide (s.Seq = 2000) || staleIn s.View s.Index))) = false := by simp [h1, h2, h3, h4]
 unfold nextOp
 rw [if_neg (by rw [e1]; simp)]
theorem no_fire {s : DSched} {now : Int} (h1 : timeOk now = true) (h2 : s.Busy = false) (h3 : s.Seq ≠ 2000) (h4 : staleIn s.View s.Index = false) (h5 : holdsIn s.View s.Id now = true) (h6 : nfOk s.View now = true) : nextOp s now = some ⟨4, nfId s.View now, s.View.Jobs.Epoch, 0, 0⟩ := by
 rw [no_rest h1 h2 h3 h4, if_pos h5, if_pos h6]
theorem no_hold {s : DSched} {now : Int} (h1 : timeOk now = true) (h2 : s.Busy = false) (h3 : s.Seq ≠ 2000) (h4 : staleIn s.View s.Index = false) (h5 : holdsIn s.View s.Id now = true) (h6 : nfOk s.View now = false) : nextOp s now = none := by
 rw [no_rest h1 h2 h3 h4, if_pos h5, if_neg (by rw [h6]; simp)]
theorem no_lease {s : DSched} {now : Int} (h1 : timeOk now = true) (h2 : s.Busy = false) (h3 : s.Seq ≠ 2000) (h4 : staleIn s.View s.Index = false) (h5 : holdsIn s.View s.Id now = false) (h6 : freeIn s.View now = true) : nextOp s now = some ⟨5, 20, 0, 0, 0⟩ := by
 rw [no_rest h1 h2 h3 h4, if_neg (by rw [h5]; simp), if_pos h6]
theorem no_wait {s : DSched} {now : Int} (h1 : timeOk now = true) (h2 : s.Busy = false) (h3 : s.Seq ≠ 2000) (h4 : staleIn s.View s.Index = false) (h5 : holdsIn s.View s.Id now = false) (h6 : freeIn s.View now = false) : nextOp s now = none := by
 rw [no_rest h1 h2 h3 h4, if_neg (by rw [h5]; simp), if_neg (by rw [h6]; simp)]
theorem holds_free {s : DSched} {now : Int} (hb : schedOkS s = true) (h : holdsIn s.View s.Id now = true) : freeIn s.View now = false := by
 have h1 : schedOk s.Id = true := by
  simp only [schedOkS, Bool.and_eq_true] at hb
  exact hb.1
 have h2 : s.Id ≠ 0 := by
  intro h0
  rw [h0] at h1
  revert h1
  decide
 simp only [holdsIn, Bool.and_eq_true, decide_eq_true_eq] at h
 obtain ⟨g1, -, g2, g3⟩ := h
 unfold freeIn
 have e1 : decide (s.View.Jobs.Holder = 0) = false := by simp; omega
 have e2 : decide (s.View.Jobs.Until ≤ guessOf s.View now) = false := by simp; omega
 rw [e1, e2]; simp
theorem RdSched.view {w : World} {s : DSched} {c0 c1 c2 c3 c4 c5 c6 t c8 c9 c10 c11 c12 c13 c14 : Value} (h : RdSched w (.agg #[c0, c1, c2, c3, c4, c5, c6, t, c8, c9, c10, c11, c12, c13, c14]) s) : Ints 2 w t (dues s.View.Jobs.Open) := by
 obtain ⟨t2, e, h2⟩ := h
 injection e with e
 simp only [Array.mk.injEq, List.cons.injEq, and_true] at e
 obtain ⟨-, -, -, -, -, -, -, rfl, -⟩ := e
 exact h2
theorem sDecided_k_bad {w : World} {v : Value} {s : DSched} (h : RdSched w v s) {now : Int} (hb : schedOkS s = false) : Calls Tryz.prog 56 #[v, .int .i64 now] w (Ret w fun r w' => ∃ F, OwSched w.heap.size w' r (decided s now) F) := by
 obtain ⟨a7, n7, k7, rfl⟩ := h.shape
 obtain ⟨bz, hbz⟩ : ∃ b : Bool, s.Busy = b := ⟨_, rfl⟩
 rw [hbz] at h ⊢
 have HB := Lib.hid hbz; clear hbz
 have hv := h.view
 have hb0 := hb; have Hb := Lib.hid hb; clear hb
 have E0 : Ext w w := Ext.refl _
 go_enter Tryz.func56, Tryz.ntmps56
 go_wp2_with fail
 refine (sSchedOk_k (h.ext (by exact extT))).mono ?_
 rintro e w1 ⟨rfl, hx1⟩
 have X1 : Ext w w1 := Ext.trans (by exact extT) hx1
 have hz1 := X1.size
 have hy1 := hx1.size; (try simp only [szA] at hy1)
 have KS1 : Blk w1 w.heap.size 32 #[.int .i64 s.Id, .int .i64 s.Seq, .int .i64 s.View.Jobs.Index, .int .i64 s.View.Jobs.Time, .int .i64 s.View.Jobs.Holder, .int .i64 s.View.Jobs.Epoch, .int .i64 s.View.Jobs.Until, .slice a7 n7 k7, .bool bz, .int .i64 s.Op.Kind, .int .i64 s.Op.A, .int .i64 s.Op.B, .int .i64 s.Op.C, .int .i64 s.Op.D, .int .i64 s.Index] := Blk.ext bC hx1
 have KR1 : Blk w1 (w.heap.size + 1) 32 #[.int .i64 0, .int .i64 0, .int .i64 0, .int .i64 0, .int .i64 0, .int .i64 0, .int .i64 0, .slice none 0 0, .bool false, .int .i64 0, .int .i64 0, .int .i64 0, .int .i64 0, .int .i64 0, .int .i64 0] := Blk.ext bC hx1
 have E1 : Ext w w1 := E0.trans X1
 clear hx1 X1
 obtain ⟨CS1, FS1, LS1⟩ := KS1.cfl
 obtain ⟨CR1, FR1, LR1⟩ := KR1.cfl
 rw [hb0]
 go_wp2_with fail
 refine bodyPost_ret (by simp [results, Tryz.results56, go_sem, CS1, FS1, LS1, CR1, FR1, LR1]; try rfl) rfl ?_
 have eA : decided s now = zSched := dec_bad Hb.out
 rw [eA]; clear eA
 exact ⟨_, rfl, by exact extT, _, .slice none 0 0, rfl, OwnI.nil _ _ _ _, rfl⟩
theorem sDecided_k_time {w : World} {v : Value} {s : DSched} (h : RdSched w v s) {now : Int} (hb : schedOkS s = true) (ht : timeOk now = false) : Calls Tryz.prog 56 #[v, .int .i64 now] w (Ret w fun r w' => ∃ F, OwSched w.heap.size w' r (decided s now) F) := by
 obtain ⟨a7, n7, k7, rfl⟩ := h.shape
 obtain ⟨bz, hbz⟩ : ∃ b : Bool, s.Busy = b := ⟨_, rfl⟩
 rw [hbz] at h ⊢
 have HB := Lib.hid hbz; clear hbz
 have hv := h.view
 have hq0 := schedOkS_seq hb
 have hb0 := hb; have Hb := Lib.hid hb; clear hb
 have ht0 := ht; have Ht := Lib.hid ht; clear ht
 have hw9 : IntKind.i64.wrap (s.Seq + 1) = s.Seq + 1 := by rw [IntKind.wrap_i64]; omega
 have E0 : Ext w w := Ext.refl _
 go_enter Tryz.func56, Tryz.ntmps56
 go_wp2_with fail
 refine (sSchedOk_k (h.ext (by exact extT))).mono ?_
 rintro e w1 ⟨rfl, hx1⟩
 have X1 : Ext w w1 := Ext.trans (by exact extT) hx1
 have hz1 := X1.size
 have hy1 := hx1.size; (try simp only [szA] at hy1)
 have KS1 : Blk w1 w.heap.size 32 #[.int .i64 s.Id, .int .i64 s.Seq, .int .i64 s.View.Jobs.Index, .int .i64 s.View.Jobs.Time, .int .i64 s.View.Jobs.Holder, .int .i64 s.View.Jobs.Epoch, .int .i64 s.View.Jobs.Until, .slice a7 n7 k7, .bool bz, .int .i64 s.Op.Kind, .int .i64 s.Op.A, .int .i64 s.Op.B, .int .i64 s.Op.C, .int .i64 s.Op.D, .int .i64 s.Index] := Blk.ext bC hx1
 have KR1 : Blk w1 (w.heap.size + 1) 32 #[.int .i64 0, .int .i64 0, .int .i64 0, .int .i64 0, .int .i64 0, .int .i64 0, .int .i64 0, .slice none 0 0, .bool false, .int .i64 0, .int .i64 0, .int .i64 0, .int .i64 0, .int .i64 0, .int .i64 0] := Blk.ext bC hx1
 have E1 : Ext w w1 := E0.trans X1
 clear hx1 X1
 obtain ⟨CS1, FS1, LS1⟩ := KS1.cfl
 obtain ⟨CR1, FR1, LR1⟩ := KR1.cfl
 have hl8 := schedOkS_len hb0; rw [hb0]; clear hb0
 go_wp2_with fail
 refine (l21Copy_k (h.ext (by exact extT)) oM).mono ?_
 rintro e w2 ⟨_, rfl, hx2, FD, gd⟩
 have X2 : Ext w1 w2 := Ext.trans (by exact extT) hx2
 have hz2 := X2.size
 have hy2 := hx2.size; (try simp only [szA] at hy2)
 have KS2 := KS1.exv hx2
 clear KS1
 have KR2 := KR1.exv hx2
 clear KR1
 have E2 : Ext w w2 := E1.trans X2
 clear hx2 X2 E1
 clear CS1 FS1 LS1 CR1 FR1 LR1
 obtain ⟨CS2, FS2, LS2⟩ := KS2.cfl
 obtain ⟨CR2, FR2, LR2⟩ := KR2.cfl
 obtain ⟨t2, rfl, gO, -⟩ := gd
 obtain ⟨ad, nd, kd, rfl⟩ := gO.shape
 rw [HB.out]
 replace gO := OwnI.mono (B' := w.heap.size) gO zT
 go_wp2_with fail
 refine (l16Time_c _ now).mono ?_
 rintro e9 w9 ⟨rfl, rfl⟩
 rw [ht0]; clear ht0
 go_wp2_with fail
 refine bodyPost_ret (by simp [results, Tryz.results56, go_sem, CS2, FS2, LS2, CR2, FR2, LR2]; try rfl) rfl ?_
 have eA : decided s now = s := dec_same Hb.out (no_head (.inl Ht.out))
 rw [eA]; clear eA
 exact ⟨_, rfl, by exact extT, _, _, (by first | rfl | (rw [HB.out])), (by exact ownS), rfl⟩
theorem sDecided_k_busy {w : World} {v : Value} {s : DSched} (h : RdSched w v s) {now : Int} (hb : schedOkS s = true) (ht : timeOk now = true) (hbz : s.Busy = true) : Calls Tryz.prog 56 #[v, .int .i64 now] w (Ret w fun r w' => ∃ F, OwSched w.heap.size w' r (decided s now) F) := by
 obtain ⟨a7, n7, k7, rfl⟩ := h.shape
 rw [hbz] at h ⊢
 have HB := Lib.hid hbz; clear hbz
 have hv := h.view
 have hq0 := schedOkS_seq hb
 have hb0 := hb; have Hb := Lib.hid hb; clear hb
 have ht0 := ht; have Ht := Lib.hid ht; clear ht
 have hw9 : IntKind.i64.wrap (s.Seq + 1) = s.Seq + 1 := by rw [IntKind.wrap_i64]; omega
 have E0 : Ext w w := Ext.refl _
 go_enter Tryz.func56, Tryz.ntmps56
 go_wp2_with fail
 refine (sSchedOk_k (h.ext (by exact extT))).mono ?_
 rintro e w1 ⟨rfl, hx1⟩
 have X1 : Ext w w1 := Ext.trans (by exact extT) hx1
 have hz1 := X1.size
 have hy1 := hx1.size; (try simp only [szA] at hy1)
 have KS1 : Blk w1 w.heap.size 32 #[.int .i64 s.Id, .int .i64 s.Seq, .int .i64 s.View.Jobs.Index, .int .i64 s.View.Jobs.Time, .int .i64 s.View.Jobs.Holder, .int .i64 s.View.Jobs.Epoch, .int .i64 s.View.Jobs.Until, .slice a7 n7 k7, .bool true, .int .i64 s.Op.Kind, .int .i64 s.Op.A, .int .i64 s.Op.B, .int .i64 s.Op.C, .int .i64 s.Op.D, .int .i64 s.Index] := Blk.ext bC hx1
 have KR1 : Blk w1 (w.heap.size + 1) 32 #[.int .i64 0, .int .i64 0, .int .i64 0, .int .i64 0, .int .i64 0, .int .i64 0, .int .i64 0, .slice none 0 0, .bool false, .int .i64 0, .int .i64 0, .int .i64 0, .int .i64 0, .int .i64 0, .int .i64 0] := Blk.ext bC hx1
 have E1 : Ext w w1 := E0.trans X1
 clear hx1 X1
 obtain ⟨CS1, FS1, LS1⟩ := KS1.cfl
 obtain ⟨CR1, FR1, LR1⟩ := KR1.cfl
 have hl8 := schedOkS_len hb0; rw [hb0]; clear hb0
 go_wp2_with fail
 refine (l21Copy_k (h.ext (by exact extT)) oM).mono ?_
 rintro e w2 ⟨_, rfl, hx2, FD, gd⟩
 have X2 : Ext w1 w2 := Ext.trans (by exact extT) hx2
 have hz2 := X2.size
 have hy2 := hx2.size; (try simp only [szA] at hy2)
 have KS2 := KS1.exv hx2
 clear KS1
 have KR2 := KR1.exv hx2
 clear KR1
 have E2 : Ext w w2 := E1.trans X2
 clear hx2 X2 E1
 clear CS1 FS1 LS1 CR1 FR1 LR1
 obtain ⟨CS2, FS2, LS2⟩ := KS2.cfl
 obtain ⟨CR2, FR2, LR2⟩ := KR2.cfl
 obtain ⟨t2, rfl, gO, -⟩ := gd
 obtain ⟨ad, nd, kd, rfl⟩ := gO.shape
 rw [HB.out]
 replace gO := OwnI.mono (B' := w.heap.size) gO zT
 go_wp2_with fail
 refine (l16Time_c _ now).mono ?_
 rintro e9 w9 ⟨rfl, rfl⟩
 rw [ht0]; clear ht0
 go_wp2_with fail
 refine bodyPost_ret (by simp [results, Tryz.results56, go_sem, CS2, FS2, LS2, CR2, FR2, LR2]; try rfl) rfl ?_
 have eA : decided s now = s := dec_same Hb.out (no_head (.inr (.inl HB.out)))
 rw [eA]; clear eA
 exact ⟨_, rfl, by exact extT, _, _, (by first | rfl | (rw [HB.out])), (by exact ownS), rfl⟩
theorem sDecided_k_seq {w : World} {v : Value} {s : DSched} (h : RdSched w v s) {now : Int} (hb : schedOkS s = true) (ht : timeOk now = true) (hbz : s.Busy = false) (hq : s.Seq = 2000) : Calls Tryz.prog 56 #[v, .int .i64 now] w (Ret w fun r w' => ∃ F, OwSched w.heap.size w' r (decided s now) F) := by
 obtain ⟨a7, n7, k7, rfl⟩ := h.shape
 rw [hbz] at h ⊢
 have HB := Lib.hid hbz; clear hbz
 have hv := h.view
 have hq0 := schedOkS_seq hb
 have hb0 := hb; have Hb := Lib.hid hb; clear hb
 have ht0 := ht; have Ht := Lib.hid ht; clear ht
 have hq1 : (2000 : Int) ≤ s.Seq := by omega
 have hq2 : (s.Seq == 2000) = true := by simpa using hq
 have HQ := Lib.hid hq; clear hq
 have hw9 : IntKind.i64.wrap (s.Seq + 1) = s.Seq + 1 := by rw [IntKind.wrap_i64]; omega
 have E0 : Ext w w := Ext.refl _
 go_enter Tryz.func56, Tryz.ntmps56
 go_wp2_with fail
 refine (sSchedOk_k (h.ext (by exact extT))).mono ?_
 rintro e w1 ⟨rfl, hx1⟩
 have X1 : Ext w w1 := Ext.trans (by exact extT) hx1
 have hz1 := X1.size
 have hy1 := hx1.size; (try simp only [szA] at hy1)
 have KS1 : Blk w1 w.heap.size 32 #[.int .i64 s.Id, .int .i64 s.Seq, .int .i64 s.View.Jobs.Index, .int .i64 s.View.Jobs.Time, .int .i64 s.View.Jobs.Holder, .int .i64 s.View.Jobs.Epoch, .int .i64 s.View.Jobs.Until, .slice a7 n7 k7, .bool false, .int .i64 s.Op.Kind, .int .i64 s.Op.A, .int .i64 s.Op.B, .int .i64 s.Op.C, .int .i64 s.Op.D, .int .i64 s.Index] := Blk.ext bC hx1
 have KR1 : Blk w1 (w.heap.size + 1) 32 #[.int .i64 0, .int .i64 0, .int .i64 0, .int .i64 0, .int .i64 0, .int .i64 0, .int .i64 0, .slice none 0 0, .bool false, .int .i64 0, .int .i64 0, .int .i64 0, .int .i64 0, .int .i64 0, .int .i64 0] := Blk.ext bC hx1
 have E1 : Ext w w1 := E0.trans X1
 clear hx1 X1
 obtain ⟨CS1, FS1, LS1⟩ := KS1.cfl
 obtain ⟨CR1, FR1, LR1⟩ := KR1.cfl
 have hl8 := schedOkS_len hb0; rw [hb0]; clear hb0
 go_wp2_with fail
 refine (l21Copy_k (h.ext (by exact extT)) oM).mono ?_
 rintro e w2 ⟨_, rfl, hx2, FD, gd⟩
 have X2 : Ext w1 w2 := Ext.trans (by exact extT) hx2
 have hz2 := X2.size
 have hy2 := hx2.size; (try simp only [szA] at hy2)
 have KS2 := KS1.exv hx2
 clear KS1
 have KR2 := KR1.exv hx2
 clear KR1
 have E2 : Ext w w2 := E1.trans X2
 clear hx2 X2 E1
 clear CS1 FS1 LS1 CR1 FR1 LR1
 obtain ⟨CS2, FS2, LS2⟩ := KS2.cfl
 obtain ⟨CR2, FR2, LR2⟩ := KR2.cfl
 obtain ⟨t2, rfl, gO, -⟩ := gd
 obtain ⟨ad, nd, kd, rfl⟩ := gO.shape
 rw [HB.out]
 replace gO := OwnI.mono (B' := w.heap.size) gO zT
 go_wp2_with fail
 refine (l16Time_c _ now).mono ?_
 rintro e9 w9 ⟨rfl, rfl⟩
 rw [ht0]; clear ht0
 go_wp2_with fail
 refine bodyPost_ret (by simp [results, Tryz.results56, go_sem, CS2, FS2, LS2, CR2, FR2, LR2]; try rfl) rfl ?_
 have eA : decided s now = s := dec_same Hb.out (no_head (.inr (.inr (.inl HQ.out))))
 rw [eA]; clear eA
 exact ⟨_, rfl, by exact extT, _, _, (by first | rfl | (rw [HB.out])), (by exact ownS), rfl⟩
theorem sDecided_k_stale {w : World} {v : Value} {s : DSched} (h : RdSched w v s) {now : Int} (hb : schedOkS s = true) (ht : timeOk now = true) (hbz : s.Busy = false) (hq : s.Seq ≠ 2000) (hst : staleIn s.View s.Index = true) : Calls Tryz.prog 56 #[v, .int .i64 now] w (Ret w fun r w' => ∃ F, OwSched w.heap.size w' r (decided s now) F) := by
 obtain ⟨a7, n7, k7, rfl⟩ := h.shape
 rw [hbz] at h ⊢
 have HB := Lib.hid hbz; clear hbz
 have hv := h.view
 have hq0 := schedOkS_seq hb
 have hb0 := hb; have Hb := Lib.hid hb; clear hb
 have ht0 := ht; have Ht := Lib.hid ht; clear ht
 have hst0 := hst; have Hst := Lib.hid hst; clear hst
 have hq1 : ¬ (2000 : Int) ≤ s.Seq := by omega
 have hq2 : (s.Seq == 2000) = false := by simpa using hq
 have HQ := Lib.hid hq; clear hq
 have hw9 : IntKind.i64.wrap (s.Seq + 1) = s.Seq + 1 := by rw [IntKind.wrap_i64]; omega
 have E0 : Ext w w := Ext.refl _
 go_enter Tryz.func56, Tryz.ntmps56
 go_wp2_with fail
 refine (sSchedOk_k (h.ext (by exact extT))).mono ?_
 rintro e w1 ⟨rfl, hx1⟩
 have X1 : Ext w w1 := Ext.trans (by exact extT) hx1
 have hz1 := X1.size
 have hy1 := hx1.size; (try simp only [szA] at hy1)
 have KS1 : Blk w1 w.heap.size 32 #[.int .i64 s.Id, .int .i64 s.Seq, .int .i64 s.View.Jobs.Index, .int .i64 s.View.Jobs.Time, .int .i64 s.View.Jobs.Holder, .int .i64 s.View.Jobs.Epoch, .int .i64 s.View.Jobs.Until, .slice a7 n7 k7, .bool false, .int .i64 s.Op.Kind, .int .i64 s.Op.A, .int .i64 s.Op.B, .int .i64 s.Op.C, .int .i64 s.Op.D, .int .i64 s.Index] := Blk.ext bC hx1
 have KR1 : Blk w1 (w.heap.size + 1) 32 #[.int .i64 0, .int .i64 0, .int .i64 0, .int .i64 0, .int .i64 0, .int .i64 0, .int .i64 0, .slice none 0 0, .bool false, .int .i64 0, .int .i64 0, .int .i64 0, .int .i64 0, .int .i64 0, .int .i64 0] := Blk.ext bC hx1
 have E1 : Ext w w1 := E0.trans X1
 clear hx1 X1
 obtain ⟨CS1, FS1, LS1⟩ := KS1.cfl
 obtain ⟨CR1, FR1, LR1⟩ := KR1.cfl
 have hl8 := schedOkS_len hb0; rw [hb0]; clear hb0
 go_wp2_with fail
 refine (l21Copy_k (h.ext (by exact extT)) oM).mono ?_
 rintro e w2 ⟨_, rfl, hx2, FD, gd⟩
 have X2 : Ext w1 w2 := Ext.trans (by exact extT) hx2
 have hz2 := X2.size
 have hy2 := hx2.size; (try simp only [szA] at hy2)
 have KS2 := KS1.exv hx2
 clear KS1
 have KR2 := KR1.exv hx2
 clear KR1
 have E2 : Ext w w2 := E1.trans X2
 clear hx2 X2 E1
 clear CS1 FS1 LS1 CR1 FR1 LR1
 obtain ⟨CS2, FS2, LS2⟩ := KS2.cfl
 obtain ⟨CR2, FR2, LR2⟩ := KR2.cfl
 obtain ⟨t2, rfl, gO, -⟩ := gd
 obtain ⟨ad, nd, kd, rfl⟩ := gO.shape
 rw [HB.out]
 replace gO := OwnI.mono (B' := w.heap.size) gO zT
 go_wp2_with fail
 refine (l16Time_c _ now).mono ?_
 rintro e9 w9 ⟨rfl, rfl⟩
 rw [ht0]; clear ht0
 go_wp2_with fail
 refine (sStaleIn_c _ s.View _ s.Index (hv.ext (by exact extT))).mono ?_
 rintro e w3 ⟨rfl, hx3⟩
 have X3 : Ext w2 w3 := Ext.trans (by exact extT) hx3
 have hz3 := X3.size
 have hy3 := hx3.size; (try simp only [szA] at hy3)
 have KS3 := KS2.exv hx3
 clear KS2
 have KR3 := KR2.exv hx3
 clear KR2
 have KO3 : Blk w3 w2.heap.size 32 #[.int .i64 s.Id, .int .i64 s.Seq, .int .i64 s.View.Jobs.Index, .int .i64 s.View.Jobs.Time, .int .i64 s.View.Jobs.Holder, .int .i64 s.View.Jobs.Epoch, .int .i64 s.View.Jobs.Until, .slice ad nd kd, .bool false, .int .i64 s.Op.Kind, .int .i64 s.Op.A, .int .i64 s.Op.B, .int .i64 s.Op.C, .int .i64 s.Op.D, .int .i64 s.Index] := Blk.ext bC hx3
 have gO := gO.ext X3
 have E3 : Ext w w3 := E2.trans X3
 clear hx3 X3 E2
 clear CS2 FS2 LS2 CR2 FR2 LR2
 obtain ⟨CS3, FS3, LS3⟩ := KS3.cfl
 obtain ⟨CR3, FR3, LR3⟩ := KR3.cfl
 obtain ⟨CO3, FO3, LO3⟩ := KO3.cfl
 rw [hst0]; clear hst0
 go_wp2_with fail
 refine bodyPost_ret (by simp [results, Tryz.results56, go_sem, CS3, FS3, LS3, CR3, FR3, LR3, CO3, FO3, LO3]; try rfl) rfl ?_
 have eA : decided s now = s := dec_same Hb.out (no_head (.inr (.inr (.inr Hst.out))))
 rw [eA]; clear eA
 exact ⟨_, rfl, by exact extT, _, _, (by first | rfl | (rw [HB.out])), (by exact ownS), rfl⟩
end Go.Proofs.YtfhaooaajpopmaaGreat
