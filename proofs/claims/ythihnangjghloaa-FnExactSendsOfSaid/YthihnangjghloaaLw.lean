/- Contracts and plain laws: V14 V15 V16. -/
import Derived.Test.YthihnangjghloaaLv
import Derived.Test.YthihnangjghloaaLa
set_option linter.unusedSimpArgs false
set_option linter.unusedVariables false
-- Schedulers: new, fallen, their request.
namespace Go.Proofs.Ythihnangjghloaa
open Go.RowKit Go.G8


noncomputable def askBy (s : DSched) : DAsk := if schedOkS s && s.Busy then ⟨s.Id, s.Seq, s.Op⟩ else ⟨0, 0, ⟨0, 0, 0, 0, 0⟩⟩
noncomputable def askByB (s : DSched) : Bool := schedOkS s && s.Busy
set_option maxHeartbeats 1600000 in
set_option maxRecDepth 100000 in
theorem sAskBy_c (w : World) (c0_0 : Int) (c0_1 : Int) (c0_2 : Int) (c0_3 : Int) (c0_4 : Int) (c0_5 : Int) (c0_6 : Int) (s0_7 : Value) (l0_7 : List DDue) (c0_8 : Bool) (c0_9 : Int) (c0_10 : Int) (c0_11 : Int) (c0_12 : Int) (c0_13 : Int) (c0_14 : Int) (h0_7 : Ints 2 w s0_7 (dues l0_7)) :
  Calls Try.prog 66 #[.agg #[.int .i64 c0_0, .int .i64 c0_1, .int .i64 c0_2, .int .i64 c0_3, .int .i64 c0_4, .int .i64 c0_5, .int .i64 c0_6, s0_7, .bool c0_8, .int .i64 c0_9, .int .i64 c0_10, .int .i64 c0_11, .int .i64 c0_12, .int .i64 c0_13, .int .i64 c0_14]] w (Ret w fun r w' => ∃ r0 : Value, ∃ z1 : Bool, r = .tuple #[r0, .bool z1] ∧ IsAsk w.heap.size w' r0 (askBy (⟨c0_0, c0_1, ⟨⟨c0_2, c0_3, c0_4, c0_5, c0_6, l0_7⟩⟩, c0_8, ⟨c0_9, c0_10, c0_11, c0_12, c0_13⟩, c0_14⟩ : DSched)) ∧ z1 = (askByB (⟨c0_0, c0_1, ⟨⟨c0_2, c0_3, c0_4, c0_5, c0_6, l0_7⟩⟩, c0_8, ⟨c0_9, c0_10, c0_11, c0_12, c0_13⟩, c0_14⟩ : DSched))) := by
 obtain ⟨a0_7, n0_7, k0_7, rfl⟩ := h0_7.shape
 have rsize_setRow := @size_setRow
 have rcell_setRow_lt := @cell_setRow_lt
 have rcell_setRow_gt := @cell_setRow_gt
 have rfrozen_setRow_lt := @frozen_setRow_lt
 have rfrozen_setRow_gt := @frozen_setRow_gt
 go_enter Try.func66, Try.ntmps66
 go_wp2_with (first | (go_at_call 49; refine (sSchedOk_c _ _ _ _ _ _ _ _ _ _ _ _ _ _ _ _ _ (by first | (with_reducible exact Ints.ext (by assumption) (by (first | exact extT | omega))) | (with_reducible exact Ints.ext (OwnI.ints (by assumption)) (by (first | exact extT | omega))) | with_reducible exact rnil_dues _ _) ).mono ?_; rintro e wa ⟨rfl, hxa⟩; have hza := hxa.size; (repeat (first | simp only [World.size_alloc] at hza | simp only [World.size_setCell] at hza | simp only [size_setRow] at hza)); have Ka0 : Blk wa (w.heap.size) 65 _ := Blk.ext (by exact blkT) hxa; (try simp only [List.setIfInBounds_toArray, List.set_cons_zero, List.set_cons_succ] at Ka0); have CKa0 := Ka0.cell; have FKa0 := Ka0.frozen; have hya__0 : w.heap.size < wa.heap.size := (by omega); have Ka1 : Blk wa (w.heap.size + 1) 120 _ := Blk.ext (by exact blkT) hxa; (try simp only [List.setIfInBounds_toArray, List.set_cons_zero, List.set_cons_succ] at Ka1); have CKa1 := Ka1.cell; have FKa1 := Ka1.frozen; have hya__1 : w.heap.size + 1 < wa.heap.size := (by omega)) | (refine wpList_store_box rfl 120 (.tmp 2) (.tmp 12) rfl rfl rfl _ (by exact blkT) (by kernel_rfl) rfl rfl ?_; intro KS0; have CKS0 := KS0.cell; have FKS0 := KS0.frozen) | (refine wpList_store_box rfl 120 (.tmp 2) (.tmp 19) rfl rfl rfl _ (by exact blkT) (by kernel_rfl) rfl rfl ?_; intro KS1; have CKS1 := KS1.cell; have FKS1 := KS1.frozen))
 all_goals
  refine bodyPost_ret (by simp [results, Try.results66, go_sem, *]; try rfl) rfl ?_
  refine ⟨_, rfl, ?_, _, _, rfl, ?_, ?_⟩
  ·
   (first | exact extT | omega)
  ·
   exact (IsAsk.cast (IsAsk.mk ) (by first | rfl | (simp [askBy, askByB, *]; done) | (simp [askBy, askByB, *]; omega) | (simp_all [askBy, askByB, bq, bn]; done) | (simp_all [askBy, askByB, bq, bn]; omega)))
  ·
   first | rfl | (simp [askBy, askByB, *]; done) | (simp [askBy, askByB, *]; omega) | (simp_all [askBy, askByB, bq, bn]; done) | (simp_all [askBy, askByB, bq, bn]; omega)
set_option maxHeartbeats 1600000 in
set_option maxRecDepth 100000 in
theorem askBy_c (w : World) (c0_0 : Int) (c0_1 : Int) (c0_2 : Int) (c0_3 : Int) (c0_4 : Int) (c0_5 : Int) (c0_6 : Int) (s0_7 : Value) (l0_7 : List DDue) (c0_8 : Bool) (c0_9 : Int) (c0_10 : Int) (c0_11 : Int) (c0_12 : Int) (c0_13 : Int) (c0_14 : Int) (h0_7 : Ints 2 w s0_7 (dues l0_7)) :
  Calls Try.prog 69 #[.agg #[.int .i64 c0_0, .int .i64 c0_1, .int .i64 c0_2, .int .i64 c0_3, .int .i64 c0_4, .int .i64 c0_5, .int .i64 c0_6, s0_7, .bool c0_8, .int .i64 c0_9, .int .i64 c0_10, .int .i64 c0_11, .int .i64 c0_12, .int .i64 c0_13, .int .i64 c0_14]] w (Ret w fun r w' => ∃ r0 : Value, ∃ z1 : Bool, r = .tuple #[r0, .bool z1] ∧ IsAsk w.heap.size w' r0 (askBy (⟨c0_0, c0_1, ⟨⟨c0_2, c0_3, c0_4, c0_5, c0_6, l0_7⟩⟩, c0_8, ⟨c0_9, c0_10, c0_11, c0_12, c0_13⟩, c0_14⟩ : DSched)) ∧ z1 = (askByB (⟨c0_0, c0_1, ⟨⟨c0_2, c0_3, c0_4, c0_5, c0_6, l0_7⟩⟩, c0_8, ⟨c0_9, c0_10, c0_11, c0_12, c0_13⟩, c0_14⟩ : DSched))) := by
 obtain ⟨a0_7, n0_7, k0_7, rfl⟩ := h0_7.shape
 have rsize_setRow := @size_setRow
 have rcell_setRow_lt := @cell_setRow_lt
 have rcell_setRow_gt := @cell_setRow_gt
 have rfrozen_setRow_lt := @frozen_setRow_lt
 have rfrozen_setRow_gt := @frozen_setRow_gt
 go_enter Try.func69, Try.ntmps69
 go_wp2_with (first | (go_at_call 58; refine (schedOk_cS _ _ _ _ _ _ _ _ _ _ _ _ _ _ _ _ _ (by first | (with_reducible exact Ints.ext (by assumption) (by (first | exact extT | omega))) | (with_reducible exact Ints.ext (OwnI.ints (by assumption)) (by (first | exact extT | omega))) | with_reducible exact rnil_dues _ _) ).mono ?_; rintro e wa ⟨rfl, hxa⟩; have hza := hxa.size; (repeat (first | simp only [World.size_alloc] at hza | simp only [World.size_setCell] at hza | simp only [size_setRow] at hza)); have Ka0 : Blk wa (w.heap.size) 65 _ := Blk.ext (by exact blkT) hxa; (try simp only [List.setIfInBounds_toArray, List.set_cons_zero, List.set_cons_succ] at Ka0); have CKa0 := Ka0.cell; have FKa0 := Ka0.frozen; have hya__0 : w.heap.size < wa.heap.size := (by omega); have Ka1 : Blk wa (w.heap.size + 1) 120 _ := Blk.ext (by exact blkT) hxa; (try simp only [List.setIfInBounds_toArray, List.set_cons_zero, List.set_cons_succ] at Ka1); have CKa1 := Ka1.cell; have FKa1 := Ka1.frozen; have hya__1 : w.heap.size + 1 < wa.heap.size := (by omega)) | (refine wpList_store_box rfl 120 (.tmp 2) (.tmp 12) rfl rfl rfl _ (by exact blkT) (by kernel_rfl) rfl rfl ?_; intro KS0; have CKS0 := KS0.cell; have FKS0 := KS0.frozen) | (refine wpList_store_box rfl 120 (.tmp 2) (.tmp 19) rfl rfl rfl _ (by exact blkT) (by kernel_rfl) rfl rfl ?_; intro KS1; have CKS1 := KS1.cell; have FKS1 := KS1.frozen))
 all_goals
  refine bodyPost_ret (by simp [results, Try.results69, go_sem, *]; try rfl) rfl ?_
  refine ⟨_, rfl, ?_, _, _, rfl, ?_, ?_⟩
  ·
   (first | exact extT | omega)
  ·
   exact (IsAsk.cast (IsAsk.mk ) (by first | rfl | (simp [askBy, askByB, *]; done) | (simp [askBy, askByB, *]; omega) | (simp_all [askBy, askByB, bq, bn]; done) | (simp_all [askBy, askByB, bq, bn]; omega)))
  ·
   first | rfl | (simp [askBy, askByB, *]; done) | (simp [askBy, askByB, *]; omega) | (simp_all [askBy, askByB, bq, bn]; done) | (simp_all [askBy, askByB, bq, bn]; omega)

end Go.Proofs.Ythihnangjghloaa

-- Schedulers: their sequence numbers.
namespace Go.Proofs.Ythihnangjghloaa
open Go.RowKit Go.G8

end Go.Proofs.Ythihnangjghloaa

-- Schedulers: what they decide.
namespace Go.Proofs.Ythihnangjghloaa
open Go.RowKit Go.G8


end Go.Proofs.Ythihnangjghloaa
