/- Contracts and plain laws: V14 V15 V16. -/
import Derived.Test.YthihnangjghloaaHv
import Derived.Test.YthihnangjghloaaGa
set_option linter.unusedSimpArgs false
set_option linter.unusedVariables false
-- Schedulers: new, fallen, their request.
namespace Go.Proofs.Ythihnangjghloaa
open Go.RowKit Go.G8


noncomputable def zSched : DSched := ⟨0, 0, ⟨⟨0, 0, 0, 0, 0, []⟩⟩, false, ⟨0, 0, 0, 0, 0⟩, 0⟩
theorem schedOkS_len {s : DSched} (h : schedOkS s = true) : s.View.Jobs.Open.length ≤ 8 := by
 simp only [Bool.and_eq_true, schedOkS] at h
 exact jobs_len h.2.2.1
theorem l20Copy_l (w : World) (c0_0 : Int) (c0_1 : Int) (c0_2 : Int) (c0_3 : Int) (c0_4 : Int) (s0_5 : Value) (l0_5 : List DDue) (h0_5 : Ints 2 w s0_5 (dues l0_5)) (e0 : (⟨⟨c0_0, c0_1, c0_2, c0_3, c0_4, l0_5⟩⟩ : DView).Jobs.Open.length ≤ 1048576) :
  Calls Try.prog 101 #[.agg #[.int .i64 c0_0, .int .i64 c0_1, .int .i64 c0_2, .int .i64 c0_3, .int .i64 c0_4, s0_5]] w (Ret w fun r0 w' => IsView w.heap.size w' r0 ((⟨⟨c0_0, c0_1, c0_2, c0_3, c0_4, l0_5⟩⟩ : DView))) := l20Copy_c w c0_0 c0_1 c0_2 c0_3 c0_4 s0_5 (dues l0_5) l0_5.length (length_dues _) h0_5 e0
theorem copyView_l (w : World) (c0_0 : Int) (c0_1 : Int) (c0_2 : Int) (c0_3 : Int) (c0_4 : Int) (s0_5 : Value) (l0_5 : List DDue) (h0_5 : Ints 2 w s0_5 (dues l0_5)) (e0 : (⟨⟨c0_0, c0_1, c0_2, c0_3, c0_4, l0_5⟩⟩ : DView).Jobs.Open.length ≤ 1048576) :
  Calls Try.prog 45 #[.agg #[.int .i64 c0_0, .int .i64 c0_1, .int .i64 c0_2, .int .i64 c0_3, .int .i64 c0_4, s0_5]] w (Ret w fun r0 w' => IsView w.heap.size w' r0 ((⟨⟨c0_0, c0_1, c0_2, c0_3, c0_4, l0_5⟩⟩ : DView))) := copyView_c w c0_0 c0_1 c0_2 c0_3 c0_4 s0_5 (dues l0_5) l0_5.length (length_dues _) h0_5 e0
set_option maxHeartbeats 1600000 in
set_option maxRecDepth 100000 in
theorem l21Copy_c (w : World) (c0_0 : Int) (c0_1 : Int) (c0_2 : Int) (c0_3 : Int) (c0_4 : Int) (c0_5 : Int) (c0_6 : Int) (s0_7 : Value) (l0_7 : List DDue) (c0_8 : Bool) (c0_9 : Int) (c0_10 : Int) (c0_11 : Int) (c0_12 : Int) (c0_13 : Int) (c0_14 : Int) (h0_7 : Ints 2 w s0_7 (dues l0_7)) (e0 : (⟨c0_0, c0_1, ⟨⟨c0_2, c0_3, c0_4, c0_5, c0_6, l0_7⟩⟩, c0_8, ⟨c0_9, c0_10, c0_11, c0_12, c0_13⟩, c0_14⟩ : DSched).View.Jobs.Open.length ≤ 1048576) :
  Calls Try.prog 50 #[.agg #[.int .i64 c0_0, .int .i64 c0_1, .int .i64 c0_2, .int .i64 c0_3, .int .i64 c0_4, .int .i64 c0_5, .int .i64 c0_6, s0_7, .bool c0_8, .int .i64 c0_9, .int .i64 c0_10, .int .i64 c0_11, .int .i64 c0_12, .int .i64 c0_13, .int .i64 c0_14]] w (Ret w fun r0 w' => IsSched w.heap.size w' r0 ((⟨c0_0, c0_1, ⟨⟨c0_2, c0_3, c0_4, c0_5, c0_6, l0_7⟩⟩, c0_8, ⟨c0_9, c0_10, c0_11, c0_12, c0_13⟩, c0_14⟩ : DSched))) := by
 obtain ⟨a0_7, n0_7, k0_7, rfl⟩ := h0_7.shape
 have rsize_setRow := @size_setRow
 have rcell_setRow_lt := @cell_setRow_lt
 have rcell_setRow_gt := @cell_setRow_gt
 have rfrozen_setRow_lt := @frozen_setRow_lt
 have rfrozen_setRow_gt := @frozen_setRow_gt
 go_enter Try.func50, Try.ntmps50
 go_wp2_with (first | (go_at_call 101; refine (l20Copy_l _ _ _ _ _ _ _ _ (by first | (with_reducible exact Ints.ext (by assumption) (by (first | exact extT | omega))) | (with_reducible exact Ints.ext (OwnI.ints (by assumption)) (by (first | exact extT | omega))) | with_reducible exact rnil_dues _ _) (by first | assumption | omega | simp_all)).mono ?_; rintro e wa ⟨_, rfl, hxa, ⟨ta_0_5, rfl, ga_0_5⟩⟩; obtain ⟨taa_0_5, tna_0_5, tca_0_5, rfl⟩ := ga_0_5.shape; have hza := hxa.size; (repeat (first | simp only [World.size_alloc] at hza ga_0_5 | simp only [World.size_setCell] at hza ga_0_5 | simp only [size_setRow] at hza ga_0_5)); have Ka0 : Blk wa (w.heap.size) 65 _ := Blk.ext (by exact blkT) hxa; (try simp only [List.setIfInBounds_toArray, List.set_cons_zero, List.set_cons_succ] at Ka0); have CKa0 := Ka0.cell; have FKa0 := Ka0.frozen; have hya__0 : w.heap.size < wa.heap.size := (by omega); have Ka1 : Blk wa (w.heap.size + 1) 65 _ := Blk.ext (by exact blkT) hxa; (try simp only [List.setIfInBounds_toArray, List.set_cons_zero, List.set_cons_succ] at Ka1); have CKa1 := Ka1.cell; have FKa1 := Ka1.frozen; have hya__1 : w.heap.size + 1 < wa.heap.size := (by omega)) | (refine wpList_store_box rfl 65 (.tmp 2) (.tmp 7) rfl rfl rfl _ (by exact blkT) (by kernel_rfl) rfl rfl ?_; intro KS0; have CKS0 := KS0.cell; have FKS0 := KS0.frozen) | (refine wpList_store_box rfl 34 (.tmp 6) (.tmp 5) rfl rfl rfl _ (by exact blkT) (by kernel_rfl) rfl rfl ?_; intro KS1; have CKS1 := KS1.cell; have FKS1 := KS1.frozen))
 all_goals
  refine bodyPost_ret (by simp [results, Try.results50, go_sem, *]; try rfl) rfl ?_
  refine ⟨_, rfl, ?_, ?_⟩
  ·
   (first | exact extT | omega)
  ·
   exact (IsSched.cast (IsSched.mk (by first | (with_reducible exact nil_dues _ _ _ _) | (with_reducible refine OwnI.mono (OwnI.keep (by assumption) ?_) ?_; rotate_left; (focus omega); (focus (repeat' (first | (with_reducible exact Chg.refl _ _) | (with_reducible refine Chg.drewN ?_ _) | (with_reducible refine Chg.drew ?_) | (with_reducible refine Chg.alloc ?_ _) | (with_reducible refine Chg.setLow ?_ (by omega) _) | (with_reducible refine Chg.setNew ?_ (by omega) _) | (with_reducible refine Chg.setRow ?_ (by omega) _) | (with_reducible refine Chg.ext ?_ (by assumption)) | omega)))))) (by first | rfl | (simp [*]; done) | (simp [*]; omega) | (simp_all [bq, bn]; done) | (simp_all [bq, bn]; omega)))
set_option maxHeartbeats 1600000 in
set_option maxRecDepth 100000 in
theorem copySched_c (w : World) (c0_0 : Int) (c0_1 : Int) (c0_2 : Int) (c0_3 : Int) (c0_4 : Int) (c0_5 : Int) (c0_6 : Int) (s0_7 : Value) (l0_7 : List DDue) (c0_8 : Bool) (c0_9 : Int) (c0_10 : Int) (c0_11 : Int) (c0_12 : Int) (c0_13 : Int) (c0_14 : Int) (h0_7 : Ints 2 w s0_7 (dues l0_7)) (e0 : (⟨c0_0, c0_1, ⟨⟨c0_2, c0_3, c0_4, c0_5, c0_6, l0_7⟩⟩, c0_8, ⟨c0_9, c0_10, c0_11, c0_12, c0_13⟩, c0_14⟩ : DSched).View.Jobs.Open.length ≤ 1048576) :
  Calls Try.prog 59 #[.agg #[.int .i64 c0_0, .int .i64 c0_1, .int .i64 c0_2, .int .i64 c0_3, .int .i64 c0_4, .int .i64 c0_5, .int .i64 c0_6, s0_7, .bool c0_8, .int .i64 c0_9, .int .i64 c0_10, .int .i64 c0_11, .int .i64 c0_12, .int .i64 c0_13, .int .i64 c0_14]] w (Ret w fun r0 w' => IsSched w.heap.size w' r0 ((⟨c0_0, c0_1, ⟨⟨c0_2, c0_3, c0_4, c0_5, c0_6, l0_7⟩⟩, c0_8, ⟨c0_9, c0_10, c0_11, c0_12, c0_13⟩, c0_14⟩ : DSched))) := by
 obtain ⟨a0_7, n0_7, k0_7, rfl⟩ := h0_7.shape
 have rsize_setRow := @size_setRow
 have rcell_setRow_lt := @cell_setRow_lt
 have rcell_setRow_gt := @cell_setRow_gt
 have rfrozen_setRow_lt := @frozen_setRow_lt
 have rfrozen_setRow_gt := @frozen_setRow_gt
 go_enter Try.func59, Try.ntmps59
 go_wp2_with (first | (go_at_call 45; refine (copyView_l _ _ _ _ _ _ _ _ (by first | (with_reducible exact Ints.ext (by assumption) (by (first | exact extT | omega))) | (with_reducible exact Ints.ext (OwnI.ints (by assumption)) (by (first | exact extT | omega))) | with_reducible exact rnil_dues _ _) (by first | assumption | omega | simp_all)).mono ?_; rintro e wa ⟨_, rfl, hxa, ⟨ta_0_5, rfl, ga_0_5⟩⟩; obtain ⟨taa_0_5, tna_0_5, tca_0_5, rfl⟩ := ga_0_5.shape; have hza := hxa.size; (repeat (first | simp only [World.size_alloc] at hza ga_0_5 | simp only [World.size_setCell] at hza ga_0_5 | simp only [size_setRow] at hza ga_0_5)); have Ka0 : Blk wa (w.heap.size) 65 _ := Blk.ext (by exact blkT) hxa; (try simp only [List.setIfInBounds_toArray, List.set_cons_zero, List.set_cons_succ] at Ka0); have CKa0 := Ka0.cell; have FKa0 := Ka0.frozen; have hya__0 : w.heap.size < wa.heap.size := (by omega); have Ka1 : Blk wa (w.heap.size + 1) 65 _ := Blk.ext (by exact blkT) hxa; (try simp only [List.setIfInBounds_toArray, List.set_cons_zero, List.set_cons_succ] at Ka1); have CKa1 := Ka1.cell; have FKa1 := Ka1.frozen; have hya__1 : w.heap.size + 1 < wa.heap.size := (by omega); have Ka2 : Blk wa (w.heap.size + 1 + 1) 65 _ := Blk.ext (by exact blkT) hxa; (try simp only [List.setIfInBounds_toArray, List.set_cons_zero, List.set_cons_succ] at Ka2); have CKa2 := Ka2.cell; have FKa2 := Ka2.frozen; have hya__2 : w.heap.size + 1 + 1 < wa.heap.size := (by omega)) | (refine wpList_store_box rfl 65 (.tmp 2) (.tmp 9) rfl rfl rfl _ (by exact blkT) (by kernel_rfl) rfl rfl ?_; intro KS0; have CKS0 := KS0.cell; have FKS0 := KS0.frozen) | (refine wpList_store_box rfl 65 (.tmp 3) (.tmp 4) rfl rfl rfl _ (by exact blkT) (by kernel_rfl) rfl rfl ?_; intro KS1; have CKS1 := KS1.cell; have FKS1 := KS1.frozen) | (refine wpList_store_box rfl 34 (.tmp 8) (.tmp 7) rfl rfl rfl _ (by exact blkT) (by kernel_rfl) rfl rfl ?_; intro KS2; have CKS2 := KS2.cell; have FKS2 := KS2.frozen))
 all_goals
  refine bodyPost_ret (by simp [results, Try.results59, go_sem, *]; try rfl) rfl ?_
  refine ⟨_, rfl, ?_, ?_⟩
  ·
   (first | exact extT | omega)
  ·
   exact (IsSched.cast (IsSched.mk (by first | (with_reducible exact nil_dues _ _ _ _) | (with_reducible refine OwnI.mono (OwnI.keep (by assumption) ?_) ?_; rotate_left; (focus omega); (focus (repeat' (first | (with_reducible exact Chg.refl _ _) | (with_reducible refine Chg.drewN ?_ _) | (with_reducible refine Chg.drew ?_) | (with_reducible refine Chg.alloc ?_ _) | (with_reducible refine Chg.setLow ?_ (by omega) _) | (with_reducible refine Chg.setNew ?_ (by omega) _) | (with_reducible refine Chg.setRow ?_ (by omega) _) | (with_reducible refine Chg.ext ?_ (by assumption)) | omega)))))) (by first | rfl | (simp [*]; done) | (simp [*]; omega) | (simp_all [bq, bn]; done) | (simp_all [bq, bn]; omega)))
end Go.Proofs.Ythihnangjghloaa

-- Schedulers: their sequence numbers.
namespace Go.Proofs.Ythihnangjghloaa
open Go.RowKit Go.G8

theorem schedOkS_seq {s : DSched} (h : schedOkS s = true) : 0 ≤ s.Seq ∧ s.Seq ≤ 2000 := by
 simp only [Bool.and_eq_true, schedOkS] at h
 exact inb_true.1 h.2.1

end Go.Proofs.Ythihnangjghloaa

-- Schedulers: what they decide.
namespace Go.Proofs.Ythihnangjghloaa
open Go.RowKit Go.G8


noncomputable def nfId (v : DView) (now : Int) : Int := (dueIds v.Jobs.Open (guessOf v now)).headD 0
noncomputable def nfOk (v : DView) (now : Int) : Bool := decide (0 < (dueIds v.Jobs.Open (guessOf v now)).length)
/-- What a scheduler asks for next, if it asks. -/
noncomputable def nextOp (s : DSched) (now : Int) : Option DOp :=
 if !timeOk now || (s.Busy || (decide (s.Seq = 2000) || staleIn s.View s.Index)) then none
 else if holdsIn s.View s.Id now then (if nfOk s.View now then some ⟨4, nfId s.View now, s.View.Jobs.Epoch, 0, 0⟩ else none)
 else if freeIn s.View now then some ⟨5, 20, 0, 0, 0⟩ else none
noncomputable def decided (s : DSched) (now : Int) : DSched :=
 if schedOkS s then (match nextOp s now with | none => s | some o => { s with Op := o, Busy := true, Seq := s.Seq + 1 }) else zSched
theorem decided_len (s : DSched) (now : Int) : (decided s now).View.Jobs.Open.length ≤ 8 := by
 unfold decided
 split
 ·
  rename_i h
  have := schedOkS_len h
  split <;> exact this
 ·
  simp [zSched]
noncomputable def decV (s : DSched) (now : Int) : Value :=
 match nextOp s now with
 | none => .iface 159 (.agg #[])
 | some o => if o.Kind = 4 then .iface 110 (.agg #[.int .i64 o.A, .int .i64 o.B]) else .iface 112 (.agg #[])
theorem decV_cases (s : DSched) (now : Int) : (nextOp s now = none ∧ decV s now = .iface 159 (.agg #[])) ∨ (∃ a b, nextOp s now = some ⟨4, a, b, 0, 0⟩ ∧ decV s now = .iface 110 (.agg #[.int .i64 a, .int .i64 b])) ∨ (nextOp s now = some ⟨5, 20, 0, 0, 0⟩ ∧ decV s now = .iface 112 (.agg #[])) := by
 have h : nextOp s now = none ∨ (∃ a b, nextOp s now = some ⟨4, a, b, 0, 0⟩) ∨ nextOp s now = some ⟨5, 20, 0, 0, 0⟩ := by
  unfold nextOp
  (repeat' split) <;> simp
 rcases h with h | ⟨a, b, h⟩ | h
 ·
  exact .inl ⟨h, by simp [decV, h]⟩
 ·
  exact .inr (.inl ⟨a, b, h, by simp [decV, h]⟩)
 ·
  exact .inr (.inr ⟨h, by simp [decV, h]⟩)
end Go.Proofs.Ythihnangjghloaa
