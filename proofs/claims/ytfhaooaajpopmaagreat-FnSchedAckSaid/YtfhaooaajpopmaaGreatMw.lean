/- Contracts and plain laws: V14 V15 V16. -/
import Derived.Test.YtfhaooaajpopmaaGreatMv
import Derived.Test.YtfhaooaajpopmaaGreatMa
set_option linter.unusedSimpArgs false
set_option linter.unusedVariables false
set_option maxHeartbeats 8000000
set_option maxRecDepth 100000
namespace Go.Proofs.YtfhaooaajpopmaaGreat
open Go.RowKit Go.G8
noncomputable def zSched : DSched := ⟨0, 0, ⟨⟨0, 0, 0, 0, 0, []⟩⟩, false, ⟨0, 0, 0, 0, 0⟩, 0⟩
noncomputable def newSched (id : Int) : DSched := if schedOk id then ⟨id, 0, ⟨⟨0, 0, 0, 0, 0, []⟩⟩, false, ⟨0, 0, 0, 0, 0⟩, 0⟩ else zSched
noncomputable def fallenSched (s : DSched) : DSched := if schedOkS s then newSched s.Id else zSched
noncomputable def ackHeard (s : DSched) (a : DAck) : DSched :=
  if schedOkS s then
    (if !ackOk a || decide (a.Client ≠ s.Id) then s
     else if s.Busy && (decide (a.Seq = s.Seq) && decide (a.Index ≠ 0)) then { s with Index := a.Index, Busy := false, Op := ⟨0, 0, 0, 0, 0⟩ }
     else if s.Seq < a.Last then { s with Seq := a.Last, Busy := false, Op := ⟨0, 0, 0, 0, 0⟩ }
     else s)
  else zSched
theorem schedOkS_len {s : DSched} (h : schedOkS s = true) : s.View.Jobs.Open.length ≤ 8 := by
  simp only [Bool.and_eq_true, schedOkS] at h
  exact jobs_len h.2.2.1
theorem l20Copy_l (w : World) (c0_0 : Int) (c0_1 : Int) (c0_2 : Int) (c0_3 : Int) (c0_4 : Int) (s0_5 : Value) (l0_5 : List DDue) (h0_5 : Ints 2 w s0_5 (dues l0_5)) (e0 : (⟨⟨c0_0, c0_1, c0_2, c0_3, c0_4, l0_5⟩⟩ : DView).Jobs.Open.length ≤ 1048576) :
    Calls Tryz.prog 39 #[.agg #[.int .i64 c0_0, .int .i64 c0_1, .int .i64 c0_2, .int .i64 c0_3, .int .i64 c0_4, s0_5]] w (Ret w fun r0 w' => IsView w.heap.size w' r0 ((⟨⟨c0_0, c0_1, c0_2, c0_3, c0_4, l0_5⟩⟩ : DView))) := l20Copy_c w c0_0 c0_1 c0_2 c0_3 c0_4 s0_5 (dues l0_5) l0_5.length (length_dues _) h0_5 e0
theorem copyView_l (w : World) (c0_0 : Int) (c0_1 : Int) (c0_2 : Int) (c0_3 : Int) (c0_4 : Int) (s0_5 : Value) (l0_5 : List DDue) (h0_5 : Ints 2 w s0_5 (dues l0_5)) (e0 : (⟨⟨c0_0, c0_1, c0_2, c0_3, c0_4, l0_5⟩⟩ : DView).Jobs.Open.length ≤ 1048576) :
    Calls Tryz.prog 40 #[.agg #[.int .i64 c0_0, .int .i64 c0_1, .int .i64 c0_2, .int .i64 c0_3, .int .i64 c0_4, s0_5]] w (Ret w fun r0 w' => IsView w.heap.size w' r0 ((⟨⟨c0_0, c0_1, c0_2, c0_3, c0_4, l0_5⟩⟩ : DView))) := copyView_c w c0_0 c0_1 c0_2 c0_3 c0_4 s0_5 (dues l0_5) l0_5.length (length_dues _) h0_5 e0
theorem l21Copy_c (w : World) (c0_0 : Int) (c0_1 : Int) (c0_2 : Int) (c0_3 : Int) (c0_4 : Int) (c0_5 : Int) (c0_6 : Int) (s0_7 : Value) (l0_7 : List DDue) (c0_8 : Bool) (c0_9 : Int) (c0_10 : Int) (c0_11 : Int) (c0_12 : Int) (c0_13 : Int) (c0_14 : Int) (h0_7 : Ints 2 w s0_7 (dues l0_7)) (e0 : (⟨c0_0, c0_1, ⟨⟨c0_2, c0_3, c0_4, c0_5, c0_6, l0_7⟩⟩, c0_8, ⟨c0_9, c0_10, c0_11, c0_12, c0_13⟩, c0_14⟩ : DSched).View.Jobs.Open.length ≤ 1048576) :
    Calls Tryz.prog 17 #[.agg #[.int .i64 c0_0, .int .i64 c0_1, .int .i64 c0_2, .int .i64 c0_3, .int .i64 c0_4, .int .i64 c0_5, .int .i64 c0_6, s0_7, .bool c0_8, .int .i64 c0_9, .int .i64 c0_10, .int .i64 c0_11, .int .i64 c0_12, .int .i64 c0_13, .int .i64 c0_14]] w (Ret w fun r0 w' => IsSched w.heap.size w' r0 ((⟨c0_0, c0_1, ⟨⟨c0_2, c0_3, c0_4, c0_5, c0_6, l0_7⟩⟩, c0_8, ⟨c0_9, c0_10, c0_11, c0_12, c0_13⟩, c0_14⟩ : DSched))) := by
  obtain ⟨a0_7, n0_7, k0_7, rfl⟩ := h0_7.shape
  have rsize_setRow := @size_setRow
  have rcell_setRow_lt := @cell_setRow_lt
  have rcell_setRow_gt := @cell_setRow_gt
  have rfrozen_setRow_lt := @frozen_setRow_lt
  have rfrozen_setRow_gt := @frozen_setRow_gt
  go_enter Tryz.func17, Tryz.ntmps17
  go_wp2_with (first | (go_at_call 39; refine (l20Copy_l _ _ _ _ _ _ _ _ (by first | (with_reducible exact Ints.ext (by assumption) xT) | (with_reducible exact Ints.ext (OwnI.ints (by assumption)) xT) | with_reducible exact rnil_dues _ _) (by first | assumption | omega | simp_all)).mono ?_; rintro e wa ⟨_, rfl, hxa, ⟨ta_0_5, rfl, ga_0_5⟩⟩; obtain ⟨taa_0_5, tna_0_5, tca_0_5, rfl⟩ := ga_0_5.shape; have hza := hxa.size; (repeat (first | simp only [World.size_alloc] at hza ga_0_5 | simp only [World.size_setCell] at hza ga_0_5 | simp only [size_setRow] at hza ga_0_5)); have Ka0 : Blk wa (w.heap.size) 32 _ := Blk.ext (by exact blkT) hxa; (try simp only [List.setIfInBounds_toArray, List.set_cons_zero, List.set_cons_succ] at Ka0); have CKa0 := Ka0.cell; have FKa0 := Ka0.frozen; have hya__0 : w.heap.size < wa.heap.size := oM; have Ka1 : Blk wa (w.heap.size + 1) 32 _ := Blk.ext (by exact blkT) hxa; (try simp only [List.setIfInBounds_toArray, List.set_cons_zero, List.set_cons_succ] at Ka1); have CKa1 := Ka1.cell; have FKa1 := Ka1.frozen; have hya__1 : w.heap.size + 1 < wa.heap.size := oM) | (refine wpList_store_box rfl 32 (.tmp 2) (.tmp 7) rfl rfl rfl _ (by exact blkT) (by kernel_rfl) rfl rfl ?_; intro KS0; have CKS0 := KS0.cell; have FKS0 := KS0.frozen) | (refine wpList_store_box rfl 28 (.tmp 6) (.tmp 5) rfl rfl rfl _ (by exact blkT) (by kernel_rfl) rfl rfl ?_; intro KS1; have CKS1 := KS1.cell; have FKS1 := KS1.frozen))
  all_goals
    refine bodyPost_ret (by simp [results, Tryz.results17, go_sem, *]; try rfl) rfl ?_
    refine ⟨_, rfl, ?_, ?_⟩
    · exact xT
    · exact (IsSched.cast (IsSched.mk (by first | (with_reducible exact nil_dues _ _ _ _) | (with_reducible refine OwnI.mono (OwnI.keep (by assumption) ?_) ?_; rotate_left; (focus omega); (focus (exact chgT))))) (by first | rfl | (simp [*]; done) | (simp [*]; omega) | (simp_all [bq, bn]; done) | (simp_all [bq, bn]; omega)))
theorem copySched_c (w : World) (c0_0 : Int) (c0_1 : Int) (c0_2 : Int) (c0_3 : Int) (c0_4 : Int) (c0_5 : Int) (c0_6 : Int) (s0_7 : Value) (l0_7 : List DDue) (c0_8 : Bool) (c0_9 : Int) (c0_10 : Int) (c0_11 : Int) (c0_12 : Int) (c0_13 : Int) (c0_14 : Int) (h0_7 : Ints 2 w s0_7 (dues l0_7)) (e0 : (⟨c0_0, c0_1, ⟨⟨c0_2, c0_3, c0_4, c0_5, c0_6, l0_7⟩⟩, c0_8, ⟨c0_9, c0_10, c0_11, c0_12, c0_13⟩, c0_14⟩ : DSched).View.Jobs.Open.length ≤ 1048576) :
    Calls Tryz.prog 18 #[.agg #[.int .i64 c0_0, .int .i64 c0_1, .int .i64 c0_2, .int .i64 c0_3, .int .i64 c0_4, .int .i64 c0_5, .int .i64 c0_6, s0_7, .bool c0_8, .int .i64 c0_9, .int .i64 c0_10, .int .i64 c0_11, .int .i64 c0_12, .int .i64 c0_13, .int .i64 c0_14]] w (Ret w fun r0 w' => IsSched w.heap.size w' r0 ((⟨c0_0, c0_1, ⟨⟨c0_2, c0_3, c0_4, c0_5, c0_6, l0_7⟩⟩, c0_8, ⟨c0_9, c0_10, c0_11, c0_12, c0_13⟩, c0_14⟩ : DSched))) := by
  obtain ⟨a0_7, n0_7, k0_7, rfl⟩ := h0_7.shape
  have rsize_setRow := @size_setRow
  have rcell_setRow_lt := @cell_setRow_lt
  have rcell_setRow_gt := @cell_setRow_gt
  have rfrozen_setRow_lt := @frozen_setRow_lt
  have rfrozen_setRow_gt := @frozen_setRow_gt
  go_enter Tryz.func18, Tryz.ntmps18
  go_wp2_with (first | (go_at_call 40; refine (copyView_l _ _ _ _ _ _ _ _ (by first | (with_reducible exact Ints.ext (by assumption) xT) | (with_reducible exact Ints.ext (OwnI.ints (by assumption)) xT) | with_reducible exact rnil_dues _ _) (by first | assumption | omega | simp_all)).mono ?_; rintro e wa ⟨_, rfl, hxa, ⟨ta_0_5, rfl, ga_0_5⟩⟩; obtain ⟨taa_0_5, tna_0_5, tca_0_5, rfl⟩ := ga_0_5.shape; have hza := hxa.size; (repeat (first | simp only [World.size_alloc] at hza ga_0_5 | simp only [World.size_setCell] at hza ga_0_5 | simp only [size_setRow] at hza ga_0_5)); have Ka0 : Blk wa (w.heap.size) 32 _ := Blk.ext (by exact blkT) hxa; (try simp only [List.setIfInBounds_toArray, List.set_cons_zero, List.set_cons_succ] at Ka0); have CKa0 := Ka0.cell; have FKa0 := Ka0.frozen; have hya__0 : w.heap.size < wa.heap.size := oM; have Ka1 : Blk wa (w.heap.size + 1) 32 _ := Blk.ext (by exact blkT) hxa; (try simp only [List.setIfInBounds_toArray, List.set_cons_zero, List.set_cons_succ] at Ka1); have CKa1 := Ka1.cell; have FKa1 := Ka1.frozen; have hya__1 : w.heap.size + 1 < wa.heap.size := oM; have Ka2 : Blk wa (w.heap.size + 1 + 1) 32 _ := Blk.ext (by exact blkT) hxa; (try simp only [List.setIfInBounds_toArray, List.set_cons_zero, List.set_cons_succ] at Ka2); have CKa2 := Ka2.cell; have FKa2 := Ka2.frozen; have hya__2 : w.heap.size + 1 + 1 < wa.heap.size := oM) | (refine wpList_store_box rfl 32 (.tmp 2) (.tmp 9) rfl rfl rfl _ (by exact blkT) (by kernel_rfl) rfl rfl ?_; intro KS0; have CKS0 := KS0.cell; have FKS0 := KS0.frozen) | (refine wpList_store_box rfl 32 (.tmp 3) (.tmp 4) rfl rfl rfl _ (by exact blkT) (by kernel_rfl) rfl rfl ?_; intro KS1; have CKS1 := KS1.cell; have FKS1 := KS1.frozen) | (refine wpList_store_box rfl 28 (.tmp 8) (.tmp 7) rfl rfl rfl _ (by exact blkT) (by kernel_rfl) rfl rfl ?_; intro KS2; have CKS2 := KS2.cell; have FKS2 := KS2.frozen))
  all_goals
    refine bodyPost_ret (by simp [results, Tryz.results18, go_sem, *]; try rfl) rfl ?_
    refine ⟨_, rfl, ?_, ?_⟩
    · exact xT
    · exact (IsSched.cast (IsSched.mk (by first | (with_reducible exact nil_dues _ _ _ _) | (with_reducible refine OwnI.mono (OwnI.keep (by assumption) ?_) ?_; rotate_left; (focus omega); (focus (exact chgT))))) (by first | rfl | (simp [*]; done) | (simp [*]; omega) | (simp_all [bq, bn]; done) | (simp_all [bq, bn]; omega)))
theorem sNewSched_c (w : World) (c0_0 : Int) :
    Calls Tryz.prog 54 #[.int .i64 c0_0] w (Ret w fun r0 w' => IsSched w.heap.size w' r0 (newSched c0_0)) := by
  have rsize_setRow := @size_setRow
  have rcell_setRow_lt := @cell_setRow_lt
  have rcell_setRow_gt := @cell_setRow_gt
  have rfrozen_setRow_lt := @frozen_setRow_lt
  have rfrozen_setRow_gt := @frozen_setRow_gt
  go_enter Tryz.func54, Tryz.ntmps54
  go_wp2_with (first | (go_at_call 20; refine (l16Who_c _ _  ).mono ?_; rintro e wa ⟨rfl, rfl⟩))
  all_goals
    refine bodyPost_ret (by simp [results, Tryz.results54, go_sem, *]; try rfl) rfl ?_
    refine ⟨_, rfl, ?_, ?_⟩
    · exact xT
    · exact (IsSched.cast (IsSched.mk (by first | (with_reducible exact nil_dues _ _ _ _) | (with_reducible refine OwnI.mono (OwnI.keep (by assumption) ?_) ?_; rotate_left; (focus omega); (focus (exact chgT))))) (by first | rfl | (simp [newSched, zSched, *]; done) | (simp [newSched, zSched, *]; omega) | (simp_all [newSched, zSched, bq, bn]; done) | (simp_all [newSched, zSched, bq, bn]; omega)))
theorem newSched_c (w : World) (c0_0 : Int) :
    Calls Tryz.prog 31 #[.int .i64 c0_0] w (Ret w fun r0 w' => IsSched w.heap.size w' r0 (newSched c0_0)) := by
  have rsize_setRow := @size_setRow
  have rcell_setRow_lt := @cell_setRow_lt
  have rcell_setRow_gt := @cell_setRow_gt
  have rfrozen_setRow_lt := @frozen_setRow_lt
  have rfrozen_setRow_gt := @frozen_setRow_gt
  go_enter Tryz.func31, Tryz.ntmps31
  go_wp2_with (first | (go_at_call 24; refine (schedOk_c _ _  ).mono ?_; rintro e wa ⟨rfl, rfl⟩))
  all_goals
    refine bodyPost_ret (by simp [results, Tryz.results31, go_sem, *]; try rfl) rfl ?_
    refine ⟨_, rfl, ?_, ?_⟩
    · exact xT
    · exact (IsSched.cast (IsSched.mk (by first | (with_reducible exact nil_dues _ _ _ _) | (with_reducible refine OwnI.mono (OwnI.keep (by assumption) ?_) ?_; rotate_left; (focus omega); (focus (exact chgT))))) (by first | rfl | (simp [newSched, zSched, *]; done) | (simp [newSched, zSched, *]; omega) | (simp_all [newSched, zSched, bq, bn]; done) | (simp_all [newSched, zSched, bq, bn]; omega)))
theorem fallenSched_c (w : World) (c0_0 : Int) (c0_1 : Int) (c0_2 : Int) (c0_3 : Int) (c0_4 : Int) (c0_5 : Int) (c0_6 : Int) (s0_7 : Value) (l0_7 : List DDue) (c0_8 : Bool) (c0_9 : Int) (c0_10 : Int) (c0_11 : Int) (c0_12 : Int) (c0_13 : Int) (c0_14 : Int) (h0_7 : Ints 2 w s0_7 (dues l0_7)) :
    Calls Tryz.prog 11 #[.agg #[.int .i64 c0_0, .int .i64 c0_1, .int .i64 c0_2, .int .i64 c0_3, .int .i64 c0_4, .int .i64 c0_5, .int .i64 c0_6, s0_7, .bool c0_8, .int .i64 c0_9, .int .i64 c0_10, .int .i64 c0_11, .int .i64 c0_12, .int .i64 c0_13, .int .i64 c0_14]] w (Ret w fun r0 w' => IsSched w.heap.size w' r0 (fallenSched (⟨c0_0, c0_1, ⟨⟨c0_2, c0_3, c0_4, c0_5, c0_6, l0_7⟩⟩, c0_8, ⟨c0_9, c0_10, c0_11, c0_12, c0_13⟩, c0_14⟩ : DSched))) := by
  obtain ⟨a0_7, n0_7, k0_7, rfl⟩ := h0_7.shape
  have rsize_setRow := @size_setRow
  have rcell_setRow_lt := @cell_setRow_lt
  have rcell_setRow_gt := @cell_setRow_gt
  have rfrozen_setRow_lt := @frozen_setRow_lt
  have rfrozen_setRow_gt := @frozen_setRow_gt
  go_enter Tryz.func11, Tryz.ntmps11
  go_wp2_with (first | (go_at_call 9; refine (schedOk_cS _ _ _ _ _ _ _ _ _ _ _ _ _ _ _ _ _ (by first | (with_reducible exact Ints.ext (by assumption) xT) | (with_reducible exact Ints.ext (OwnI.ints (by assumption)) xT) | with_reducible exact rnil_dues _ _) ).mono ?_; rintro e wa ⟨rfl, hxa⟩; have hza := hxa.size; (repeat (first | simp only [World.size_alloc] at hza | simp only [World.size_setCell] at hza | simp only [size_setRow] at hza)); (try have hya_b_0 : wb.heap.size < wa.heap.size := oM); (try have hya_b_1 : wb.heap.size + 1 < wa.heap.size := oM); (try have hya_b_2 : wb.heap.size + 1 + 1 < wa.heap.size := oM); have Ka0 : Blk wa (w.heap.size) 32 _ := Blk.ext (by exact blkT) hxa; (try simp only [List.setIfInBounds_toArray, List.set_cons_zero, List.set_cons_succ] at Ka0); have CKa0 := Ka0.cell; have FKa0 := Ka0.frozen; have hya__0 : w.heap.size < wa.heap.size := oM; have Ka1 : Blk wa (w.heap.size + 1) 32 _ := Blk.ext (by exact blkT) hxa; (try simp only [List.setIfInBounds_toArray, List.set_cons_zero, List.set_cons_succ] at Ka1); have CKa1 := Ka1.cell; have FKa1 := Ka1.frozen; have hya__1 : w.heap.size + 1 < wa.heap.size := oM; (try (have Ka_b0 : Blk wa (wb.heap.size) _ _ := Blk.ext (by exact blkT) hxa; (try simp only [List.setIfInBounds_toArray, List.set_cons_zero, List.set_cons_succ] at Ka_b0); have CKa_b0 := Ka_b0.cell; have FKa_b0 := Ka_b0.frozen)); (try (have Ka_b1 : Blk wa (wb.heap.size + 1) _ _ := Blk.ext (by exact blkT) hxa; (try simp only [List.setIfInBounds_toArray, List.set_cons_zero, List.set_cons_succ] at Ka_b1); have CKa_b1 := Ka_b1.cell; have FKa_b1 := Ka_b1.frozen)); (try (have Ka_b2 : Blk wa (wb.heap.size + 1 + 1) _ _ := Blk.ext (by exact blkT) hxa; (try simp only [List.setIfInBounds_toArray, List.set_cons_zero, List.set_cons_succ] at Ka_b2); have CKa_b2 := Ka_b2.cell; have FKa_b2 := Ka_b2.frozen))) | (go_at_call 31; refine (newSched_c _ _  ).mono ?_; rintro e wb ⟨_, rfl, hxb, ⟨tb_0_7, rfl, gb_0_7⟩⟩; obtain ⟨tab_0_7, tnb_0_7, tcb_0_7, rfl⟩ := gb_0_7.shape; have hzb := hxb.size; (repeat (first | simp only [World.size_alloc] at hzb gb_0_7 | simp only [World.size_setCell] at hzb gb_0_7 | simp only [size_setRow] at hzb gb_0_7)); (try have hyb_a_0 : wa.heap.size < wb.heap.size := oM); (try have hyb_a_1 : wa.heap.size + 1 < wb.heap.size := oM); (try have hyb_a_2 : wa.heap.size + 1 + 1 < wb.heap.size := oM); have Kb0 : Blk wb (w.heap.size) 32 _ := Blk.ext (by exact blkT) hxb; (try simp only [List.setIfInBounds_toArray, List.set_cons_zero, List.set_cons_succ] at Kb0); have CKb0 := Kb0.cell; have FKb0 := Kb0.frozen; have hyb__0 : w.heap.size < wb.heap.size := oM; have Kb1 : Blk wb (w.heap.size + 1) 32 _ := Blk.ext (by exact blkT) hxb; (try simp only [List.setIfInBounds_toArray, List.set_cons_zero, List.set_cons_succ] at Kb1); have CKb1 := Kb1.cell; have FKb1 := Kb1.frozen; have hyb__1 : w.heap.size + 1 < wb.heap.size := oM; (try (have Kb_a0 : Blk wb (wa.heap.size) _ _ := Blk.ext (by exact blkT) hxb; (try simp only [List.setIfInBounds_toArray, List.set_cons_zero, List.set_cons_succ] at Kb_a0); have CKb_a0 := Kb_a0.cell; have FKb_a0 := Kb_a0.frozen)); (try (have Kb_a1 : Blk wb (wa.heap.size + 1) _ _ := Blk.ext (by exact blkT) hxb; (try simp only [List.setIfInBounds_toArray, List.set_cons_zero, List.set_cons_succ] at Kb_a1); have CKb_a1 := Kb_a1.cell; have FKb_a1 := Kb_a1.frozen)); (try (have Kb_a2 : Blk wb (wa.heap.size + 1 + 1) _ _ := Blk.ext (by exact blkT) hxb; (try simp only [List.setIfInBounds_toArray, List.set_cons_zero, List.set_cons_succ] at Kb_a2); have CKb_a2 := Kb_a2.cell; have FKb_a2 := Kb_a2.frozen))) | (refine wpList_store_box rfl 32 (.tmp 2) (.tmp 6) rfl rfl rfl _ (by exact blkT) (by kernel_rfl) rfl rfl ?_; intro KS0; have CKS0 := KS0.cell; have FKS0 := KS0.frozen) | (refine wpList_store_box rfl 32 (.tmp 2) (.tmp 9) rfl rfl rfl _ (by exact blkT) (by kernel_rfl) rfl rfl ?_; intro KS1; have CKS1 := KS1.cell; have FKS1 := KS1.frozen))
  all_goals
    refine bodyPost_ret (by simp [results, Tryz.results11, go_sem, *]; try rfl) rfl ?_
    refine ⟨_, rfl, ?_, ?_⟩
    · exact xT
    · exact (IsSched.cast (IsSched.mk (by first | (with_reducible exact nil_dues _ _ _ _) | (with_reducible refine OwnI.mono (OwnI.keep (by assumption) ?_) ?_; rotate_left; (focus omega); (focus (exact chgT))))) (by first | rfl | (simp [fallenSched, zSched, *]; done) | (simp [fallenSched, zSched, *]; omega) | (simp_all [fallenSched, zSched, bq, bn]; done) | (simp_all [fallenSched, zSched, bq, bn]; omega)))
theorem schedOkS_seq {s : DSched} (h : schedOkS s = true) : 0 ≤ s.Seq ∧ s.Seq ≤ 2000 := by
  simp only [Bool.and_eq_true, schedOkS] at h
  exact inb_true.1 h.2.1
noncomputable def nfId (v : DView) (now : Int) : Int := (dueIds v.Jobs.Open (guessOf v now)).headD 0
noncomputable def nfOk (v : DView) (now : Int) : Bool := decide (0 < (dueIds v.Jobs.Open (guessOf v now)).length)
noncomputable def nextOp (s : DSched) (now : Int) : Option DOp :=
  if !timeOk now || (s.Busy || (decide (s.Seq = 2000) || staleIn s.View s.Index)) then none
  else if holdsIn s.View s.Id now then (if nfOk s.View now then some ⟨4, nfId s.View now, s.View.Jobs.Epoch, 0, 0⟩ else none)
  else if freeIn s.View now then some ⟨5, 20, 0, 0, 0⟩ else none
noncomputable def decided (s : DSched) (now : Int) : DSched :=
  if schedOkS s then (match nextOp s now with | none => s | some o => { s with Op := o, Busy := true, Seq := s.Seq + 1 }) else zSched
end Go.Proofs.YtfhaooaajpopmaaGreat
