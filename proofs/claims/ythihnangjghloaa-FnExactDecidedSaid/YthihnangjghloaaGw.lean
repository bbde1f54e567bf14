/- Contracts and plain laws: HelpB S2 S3. -/
import Derived.Test.YthihnangjghloaaGa
import Derived.Test.YthihnangjghloaaGb
set_option linter.unusedSimpArgs false
set_option linter.unusedVariables false
-- HelpB: contracts of the statements' helper functions.
namespace Go.Proofs.Ythihnangjghloaa
open Go.RowKit Go.G8

set_option maxHeartbeats 800000 in
theorem toJobs_c (w : World) (c0 : Int) (c1 : Int) (c2 : Int) (c3 : Int) (c4 : Int) (s5 : Value) (d5 : List Int) (L5 : Nat) (hL5 : d5.length = L5 * 2) (h5 : Ints 2 w s5 d5) (hs5 : L5 ≤ 1048576) :
  Calls Try.prog 103 #[.agg #[.int .i64 c0, .int .i64 c1, .int .i64 c2, .int .i64 c3, .int .i64 c4, s5]] w (Ret w fun v w' => ∃ t5 : Value, v = .agg #[.int .i64 c0, .int .i64 c1, .int .i64 c2, .int .i64 c3, .int .i64 c4, t5] ∧ OwnI w.heap.size 132 2 w' t5 d5) := by
 go_enter Try.func103, Try.ntmps103
 go_wp2_with (first | (go_at_call 136; refine (toDueS_c _ s5 d5 L5 hL5 (h5.ext (by (first | exact extT | omega))) hs5).mono ?_; rintro e w1 ⟨t5, rfl, hx1, g5⟩; obtain ⟨ta5, tn5, tc5, rfl⟩ := g5.shape; have hz1 := hx1.size; obtain ⟨hc1, hf1⟩ := hx1.cells; (repeat (first | simp only [World.size_alloc] at hz1 hc1 hf1 g5 | simp only [World.size_setCell] at hz1 hc1 hf1 g5)); have hy1_0 : w.heap.size < w1.heap.size := (by omega); have hy1_1 : w.heap.size + 1 < w1.heap.size := (by omega); have hy1_2 : w.heap.size + 1 + 1 < w1.heap.size := (by omega)))
 refine bodyPost_ret (v := .agg #[.int .i64 c0, .int .i64 c1, .int .i64 c2, .int .i64 c3, .int .i64 c4, .slice ta5 tn5 tc5]) ?_ rfl ?_
 ·
  simp [results, Try.results103, go_sem, *]
 ·
  refine ⟨_, rfl, ?_, _, rfl, (g5.keep ?_).mono ?_⟩
  all_goals clear hc1 hf1
  ·
   (first | exact extT | omega)
  ·
   repeat' (first | (with_reducible exact Chg.refl _ _) | (with_reducible refine Chg.drewN ?_ _) | (with_reducible refine Chg.drew ?_) | (with_reducible refine Chg.alloc ?_ _) | (with_reducible refine Chg.setLow ?_ ?_ _) | (with_reducible refine Chg.ext ?_ (by assumption)) | omega)
  ·
   omega

set_option maxHeartbeats 800000 in
theorem szJobs_c (w : World) (c0 : Int) (c1 : Int) (c2 : Int) (c3 : Int) (c4 : Int) (s5 : Value) (d5 : List Int) (L5 : Nat) (hL5 : d5.length = L5 * 2) (left : Int) (h5 : Ints 2 w s5 d5) (h0 : 0 ≤ left) (h1 : left ≤ 1048576) :
  Calls Try.prog 98 #[.agg #[.int .i64 c0, .int .i64 c1, .int .i64 c2, .int .i64 c3, .int .i64 c4, s5], .int .i64 left] w (Ret w fun v' _ => SzR left (L5) v') := by
 go_enter Try.func98, Try.ntmps98
 go_wp2_with (first | (go_at_call 131; refine (szDueS_c _ s5 d5 L5 hL5 _ (h5.ext (by (first | exact extT | omega))) (by omega) (by omega)).mono ?_; rintro e w1 ⟨v1, rfl, hx1, hv⟩; have hz1 := hx1.size; obtain ⟨hc1, hf1⟩ := hx1.cells; (repeat (first | simp only [World.size_alloc] at hz1 hc1 hf1 | simp only [World.size_setCell] at hz1 hc1 hf1)); have hy1_0 : w.heap.size < w1.heap.size := (by omega); rcases hv with ⟨rfl, q1⟩ | ⟨rfl, q1⟩))
 all_goals
  go_ret
  refine ⟨_, rfl, ?_, ?_⟩
  ·
   (first | exact extT | omega)
  ·
   first | exact .inl ⟨rfl, by omega⟩ | (refine .inr ⟨congrArg (Value.int .i64) ?_, ?_⟩ <;> omega)

set_option maxHeartbeats 800000 in
theorem eqJobs_c (w : World) (c0 : Int) (c1 : Int) (c2 : Int) (c3 : Int) (c4 : Int) (s5 : Value) (t5 : Value) (d5 : List Int) (h5 : Ints 2 w s5 d5) (k5 : Ints 2 w t5 d5) :
  Calls Try.prog 105 #[.agg #[.int .i64 c0, .int .i64 c1, .int .i64 c2, .int .i64 c3, .int .i64 c4, s5], .agg #[.int .i64 c0, .int .i64 c1, .int .i64 c2, .int .i64 c3, .int .i64 c4, t5]] w (RetV w (.bool true)) := by
 go_enter Try.func105, Try.ntmps105
 go_wp2_with (first | (go_at_call 139; refine (eqDueS_c _ s5 t5 d5 (h5.ext (by (first | exact extT | omega))) (k5.ext (by (first | exact extT | omega)))).mono ?_; rintro e w1 ⟨rfl, hx1⟩; have hz1 := hx1.size; obtain ⟨hc1, hf1⟩ := hx1.cells; (repeat (first | simp only [World.size_alloc] at hz1 hc1 hf1 | simp only [World.size_setCell] at hz1 hc1 hf1)); have hy1_0 : w.heap.size < w1.heap.size := (by omega); have hy1_1 : w.heap.size + 1 < w1.heap.size := (by omega)))
 go_ret
 refine ⟨rfl, ?_⟩
 (first | exact extT | omega)

set_option maxHeartbeats 800000 in
theorem markJobs_c (w : World) (B : Nat) (c0 : Int) (c1 : Int) (c2 : Int) (c3 : Int) (c4 : Int) (s5 : Value) (d5 : List Int) (L5 : Nat) (hL5 : d5.length = L5 * 2) (q : Int) (h5 : OwnI B 132 2 w s5 d5) (h0 : 0 ≤ q) (h1 : q + (L5 * 2 : Nat) ≤ 4611686018427387904) :
  Calls Try.prog 106 #[.agg #[.int .i64 c0, .int .i64 c1, .int .i64 c2, .int .i64 c3, .int .i64 c4, s5], .int .i64 q] w (RetM w (feet [s5]) (.int .i64 (q + (L5 * 2 : Nat))) fun w' => OwnI B 132 2 w' s5 (run q (L5 * 2))) := by
 go_enter Try.func106, Try.ntmps106
 go_wp2_with (first | (go_at_call 140; refine (markDueS_c _ B s5 d5 L5 hL5 q (h5.ext (by (first | exact extT | omega))) h0 h1).mono ?_; rintro e w1 ⟨rfl, hx1, g1⟩))
 go_ret
 exact ⟨rfl, (Ext.upd ((Ext.refl w).alloc _) _).trans hx1, g1⟩

set_option maxHeartbeats 800000 in
theorem heldJobs_c (w : World) (c0 : Int) (c1 : Int) (c2 : Int) (c3 : Int) (c4 : Int) (s5 : Value) (L5 : Nat) (q : Int) (h5 : Ints 2 w s5 (run q (L5 * 2))) (h0 : 0 ≤ q) (h1 : q + (L5 * 2 : Nat) ≤ 4611686018427387904) :
  Calls Try.prog 107 #[.agg #[.int .i64 c0, .int .i64 c1, .int .i64 c2, .int .i64 c3, .int .i64 c4, s5], .int .i64 q] w (RetV w (.int .i64 (q + (L5 * 2 : Nat)))) := by
 have ht : decide (q + ((L5 * 2 : Nat) : Int) < 0) = false := by simp; omega
 go_enter Try.func107, Try.ntmps107
 go_wp2_with (first | (go_at_call 141; refine (heldDueS_c _ s5 L5 q (h5.ext (by (first | exact extT | omega))) h0 h1).mono ?_; rintro e w1 ⟨rfl, hx1⟩; have hz1 := hx1.size; obtain ⟨hc1, hf1⟩ := hx1.cells; (repeat (first | simp only [World.size_alloc] at hz1 hc1 hf1 | simp only [World.size_setCell] at hz1 hc1 hf1)); have hy1_0 : w.heap.size < w1.heap.size := (by omega)))
 go_ret
 refine ⟨rfl, ?_⟩
 (first | exact extT | omega)

set_option maxHeartbeats 800000 in
theorem toView_c (w : World) (c0 : Int) (c1 : Int) (c2 : Int) (c3 : Int) (c4 : Int) (s5 : Value) (d5 : List Int) (L5 : Nat) (hL5 : d5.length = L5 * 2) (h5 : Ints 2 w s5 d5) (hs5 : L5 ≤ 1048576) :
  Calls Try.prog 56 #[.agg #[.int .i64 c0, .int .i64 c1, .int .i64 c2, .int .i64 c3, .int .i64 c4, s5]] w (Ret w fun v w' => ∃ t5 : Value, v = .agg #[.int .i64 c0, .int .i64 c1, .int .i64 c2, .int .i64 c3, .int .i64 c4, t5] ∧ OwnI w.heap.size 132 2 w' t5 d5) := by
 go_enter Try.func56, Try.ntmps56
 go_wp2_with (first | (go_at_call 103; refine (toJobs_c _ c0 c1 c2 c3 c4 s5 d5 L5 hL5 (h5.ext (by (first | exact extT | omega))) hs5).mono ?_; rintro e w1 ⟨_, rfl, hx1, t5, rfl, g5⟩; obtain ⟨ta5, tn5, tc5, rfl⟩ := g5.shape; have hz1 := hx1.size; obtain ⟨hc1, hf1⟩ := hx1.cells; (repeat (first | simp only [World.size_alloc] at hz1 hc1 hf1 g5 | simp only [World.size_setCell] at hz1 hc1 hf1 g5)); have hy1_0 : w.heap.size < w1.heap.size := (by omega); have hy1_1 : w.heap.size + 1 < w1.heap.size := (by omega); have hy1_2 : w.heap.size + 1 + 1 < w1.heap.size := (by omega)))
 refine bodyPost_ret (v := .agg #[.int .i64 c0, .int .i64 c1, .int .i64 c2, .int .i64 c3, .int .i64 c4, .slice ta5 tn5 tc5]) ?_ rfl ?_
 ·
  simp [results, Try.results56, go_sem, *]
 ·
  refine ⟨_, rfl, ?_, _, rfl, (g5.keep ?_).mono ?_⟩
  all_goals clear hc1 hf1
  ·
   (first | exact extT | omega)
  ·
   repeat' (first | (with_reducible exact Chg.refl _ _) | (with_reducible refine Chg.drewN ?_ _) | (with_reducible refine Chg.drew ?_) | (with_reducible refine Chg.alloc ?_ _) | (with_reducible refine Chg.setLow ?_ ?_ _) | (with_reducible refine Chg.ext ?_ (by assumption)) | omega)
  ·
   omega

set_option maxHeartbeats 800000 in
theorem szView_c (w : World) (c0 : Int) (c1 : Int) (c2 : Int) (c3 : Int) (c4 : Int) (s5 : Value) (d5 : List Int) (L5 : Nat) (hL5 : d5.length = L5 * 2) (left : Int) (h5 : Ints 2 w s5 d5) (h0 : 0 ≤ left) (h1 : left ≤ 1048576) :
  Calls Try.prog 48 #[.agg #[.int .i64 c0, .int .i64 c1, .int .i64 c2, .int .i64 c3, .int .i64 c4, s5], .int .i64 left] w (Ret w fun v' _ => SzR left (L5) v') := by
 go_enter Try.func48, Try.ntmps48
 go_wp2_with (first | (go_at_call 98; refine (szJobs_c _ c0 c1 c2 c3 c4 s5 d5 L5 hL5 _ (h5.ext (by (first | exact extT | omega))) (by omega) (by omega)).mono ?_; rintro e w1 ⟨v1, rfl, hx1, hv⟩; have hz1 := hx1.size; obtain ⟨hc1, hf1⟩ := hx1.cells; (repeat (first | simp only [World.size_alloc] at hz1 hc1 hf1 | simp only [World.size_setCell] at hz1 hc1 hf1)); have hy1_0 : w.heap.size < w1.heap.size := (by omega); rcases hv with ⟨rfl, q1⟩ | ⟨rfl, q1⟩))
 all_goals
  go_ret
  refine ⟨_, rfl, ?_, ?_⟩
  ·
   (first | exact extT | omega)
  ·
   first | exact .inl ⟨rfl, by omega⟩ | (refine .inr ⟨congrArg (Value.int .i64) ?_, ?_⟩ <;> omega)

set_option maxHeartbeats 800000 in
theorem eqView_c (w : World) (c0 : Int) (c1 : Int) (c2 : Int) (c3 : Int) (c4 : Int) (s5 : Value) (t5 : Value) (d5 : List Int) (h5 : Ints 2 w s5 d5) (k5 : Ints 2 w t5 d5) :
  Calls Try.prog 61 #[.agg #[.int .i64 c0, .int .i64 c1, .int .i64 c2, .int .i64 c3, .int .i64 c4, s5], .agg #[.int .i64 c0, .int .i64 c1, .int .i64 c2, .int .i64 c3, .int .i64 c4, t5]] w (RetV w (.bool true)) := by
 go_enter Try.func61, Try.ntmps61
 go_wp2_with (first | (go_at_call 105; refine (eqJobs_c _ c0 c1 c2 c3 c4 s5 t5 d5 (h5.ext (by (first | exact extT | omega))) (k5.ext (by (first | exact extT | omega)))).mono ?_; rintro e w1 ⟨rfl, hx1⟩; have hz1 := hx1.size; obtain ⟨hc1, hf1⟩ := hx1.cells; (repeat (first | simp only [World.size_alloc] at hz1 hc1 hf1 | simp only [World.size_setCell] at hz1 hc1 hf1)); have hy1_0 : w.heap.size < w1.heap.size := (by omega); have hy1_1 : w.heap.size + 1 < w1.heap.size := (by omega)))
 go_ret
 refine ⟨rfl, ?_⟩
 (first | exact extT | omega)

set_option maxHeartbeats 800000 in
theorem markView_c (w : World) (B : Nat) (c0 : Int) (c1 : Int) (c2 : Int) (c3 : Int) (c4 : Int) (s5 : Value) (d5 : List Int) (L5 : Nat) (hL5 : d5.length = L5 * 2) (q : Int) (h5 : OwnI B 132 2 w s5 d5) (h0 : 0 ≤ q) (h1 : q + (L5 * 2 : Nat) ≤ 4611686018427387904) :
  Calls Try.prog 63 #[.agg #[.int .i64 c0, .int .i64 c1, .int .i64 c2, .int .i64 c3, .int .i64 c4, s5], .int .i64 q] w (RetM w (feet [s5]) (.int .i64 (q + (L5 * 2 : Nat))) fun w' => OwnI B 132 2 w' s5 (run q (L5 * 2))) := by
 go_enter Try.func63, Try.ntmps63
 go_wp2_with (first | (go_at_call 106; refine (markJobs_c _ B c0 c1 c2 c3 c4 s5 d5 L5 hL5 q (h5.ext (by (first | exact extT | omega))) h0 h1).mono ?_; rintro e w1 ⟨rfl, hx1, g1⟩))
 go_ret
 exact ⟨rfl, (Ext.upd ((Ext.refl w).alloc _) _).trans hx1, g1⟩

set_option maxHeartbeats 800000 in
theorem heldView_c (w : World) (c0 : Int) (c1 : Int) (c2 : Int) (c3 : Int) (c4 : Int) (s5 : Value) (L5 : Nat) (q : Int) (h5 : Ints 2 w s5 (run q (L5 * 2))) (h0 : 0 ≤ q) (h1 : q + (L5 * 2 : Nat) ≤ 4611686018427387904) :
  Calls Try.prog 64 #[.agg #[.int .i64 c0, .int .i64 c1, .int .i64 c2, .int .i64 c3, .int .i64 c4, s5], .int .i64 q] w (RetV w (.int .i64 (q + (L5 * 2 : Nat)))) := by
 have ht : decide (q + ((L5 * 2 : Nat) : Int) < 0) = false := by simp; omega
 go_enter Try.func64, Try.ntmps64
 go_wp2_with (first | (go_at_call 107; refine (heldJobs_c _ c0 c1 c2 c3 c4 s5 L5 q (h5.ext (by (first | exact extT | omega))) h0 h1).mono ?_; rintro e w1 ⟨rfl, hx1⟩; have hz1 := hx1.size; obtain ⟨hc1, hf1⟩ := hx1.cells; (repeat (first | simp only [World.size_alloc] at hz1 hc1 hf1 | simp only [World.size_setCell] at hz1 hc1 hf1)); have hy1_0 : w.heap.size < w1.heap.size := (by omega)))
 go_ret
 refine ⟨rfl, ?_⟩
 (first | exact extT | omega)

set_option maxHeartbeats 800000 in
theorem toSched_c (w : World) (c0 : Int) (c1 : Int) (c2 : Int) (c3 : Int) (c4 : Int) (c5 : Int) (c6 : Int) (s7 : Value) (d7 : List Int) (L7 : Nat) (hL7 : d7.length = L7 * 2) (c8 : Bool) (c9 : Int) (c10 : Int) (c11 : Int) (c12 : Int) (c13 : Int) (c14 : Int) (h7 : Ints 2 w s7 d7) (hs7 : L7 ≤ 1048576) :
  Calls Try.prog 19 #[.agg #[.int .i64 c0, .int .i64 c1, .int .i64 c2, .int .i64 c3, .int .i64 c4, .int .i64 c5, .int .i64 c6, s7, .bool c8, .int .i64 c9, .int .i64 c10, .int .i64 c11, .int .i64 c12, .int .i64 c13, .int .i64 c14]] w (Ret w fun v w' => ∃ t7 : Value, v = .agg #[.int .i64 c0, .int .i64 c1, .int .i64 c2, .int .i64 c3, .int .i64 c4, .int .i64 c5, .int .i64 c6, t7, .bool c8, .int .i64 c9, .int .i64 c10, .int .i64 c11, .int .i64 c12, .int .i64 c13, .int .i64 c14] ∧ OwnI w.heap.size 132 2 w' t7 d7) := by
 go_enter Try.func19, Try.ntmps19
 go_wp2_with (first | (go_at_call 56; refine (toView_c _ c2 c3 c4 c5 c6 s7 d7 L7 hL7 (h7.ext (by (first | exact extT | omega))) hs7).mono ?_; rintro e w1 ⟨_, rfl, hx1, t7, rfl, g7⟩; obtain ⟨ta7, tn7, tc7, rfl⟩ := g7.shape; have hz1 := hx1.size; obtain ⟨hc1, hf1⟩ := hx1.cells; (repeat (first | simp only [World.size_alloc] at hz1 hc1 hf1 g7 | simp only [World.size_setCell] at hz1 hc1 hf1 g7)); have hy1_0 : w.heap.size < w1.heap.size := (by omega); have hy1_1 : w.heap.size + 1 < w1.heap.size := (by omega); have hy1_2 : w.heap.size + 1 + 1 < w1.heap.size := (by omega)) | (go_at_call 57; refine (toOp_c _ c9 c10 c11 c12 c13).mono ?_; rintro e w2 ⟨rfl, hx2⟩; have hz2 := hx2.size; obtain ⟨hc2, hf2⟩ := hx2.cells; (repeat (first | simp only [World.size_alloc] at hz2 hc2 hf2 | simp only [World.size_setCell] at hz2 hc2 hf2)); have hy2_0 : w.heap.size < w2.heap.size := (by omega); have hy2_1 : w.heap.size + 1 < w2.heap.size := (by omega); have hy2_2 : w.heap.size + 1 + 1 < w2.heap.size := (by omega)))
 refine bodyPost_ret (v := .agg #[.int .i64 c0, .int .i64 c1, .int .i64 c2, .int .i64 c3, .int .i64 c4, .int .i64 c5, .int .i64 c6, .slice ta7 tn7 tc7, .bool c8, .int .i64 c9, .int .i64 c10, .int .i64 c11, .int .i64 c12, .int .i64 c13, .int .i64 c14]) ?_ rfl ?_
 ·
  simp [results, Try.results19, go_sem, *]
 ·
  refine ⟨_, rfl, ?_, _, rfl, (g7.keep ?_).mono ?_⟩
  all_goals clear hc1 hf1 hc2 hf2
  ·
   (first | exact extT | omega)
  ·
   repeat' (first | (with_reducible exact Chg.refl _ _) | (with_reducible refine Chg.drewN ?_ _) | (with_reducible refine Chg.drew ?_) | (with_reducible refine Chg.alloc ?_ _) | (with_reducible refine Chg.setLow ?_ ?_ _) | (with_reducible refine Chg.ext ?_ (by assumption)) | omega)
  ·
   omega

set_option maxHeartbeats 800000 in
theorem szSched_c (w : World) (c0 : Int) (c1 : Int) (c2 : Int) (c3 : Int) (c4 : Int) (c5 : Int) (c6 : Int) (s7 : Value) (d7 : List Int) (L7 : Nat) (hL7 : d7.length = L7 * 2) (c8 : Bool) (c9 : Int) (c10 : Int) (c11 : Int) (c12 : Int) (c13 : Int) (c14 : Int) (left : Int) (h7 : Ints 2 w s7 d7) (h0 : 0 ≤ left) (h1 : left ≤ 1048576) :
  Calls Try.prog 17 #[.agg #[.int .i64 c0, .int .i64 c1, .int .i64 c2, .int .i64 c3, .int .i64 c4, .int .i64 c5, .int .i64 c6, s7, .bool c8, .int .i64 c9, .int .i64 c10, .int .i64 c11, .int .i64 c12, .int .i64 c13, .int .i64 c14], .int .i64 left] w (Ret w fun v' _ => SzR left (L7) v') := by
 go_enter Try.func17, Try.ntmps17
 go_wp2_with (first | (go_at_call 48; refine (szView_c _ c2 c3 c4 c5 c6 s7 d7 L7 hL7 _ (h7.ext (by (first | exact extT | omega))) (by omega) (by omega)).mono ?_; rintro e w1 ⟨v1, rfl, hx1, hv⟩; have hz1 := hx1.size; obtain ⟨hc1, hf1⟩ := hx1.cells; (repeat (first | simp only [World.size_alloc] at hz1 hc1 hf1 | simp only [World.size_setCell] at hz1 hc1 hf1)); have hy1_0 : w.heap.size < w1.heap.size := (by omega); rcases hv with ⟨rfl, q1⟩ | ⟨rfl, q1⟩))
 all_goals
  go_ret
  refine ⟨_, rfl, ?_, ?_⟩
  ·
   (first | exact extT | omega)
  ·
   first | exact .inl ⟨rfl, by omega⟩ | (refine .inr ⟨congrArg (Value.int .i64) ?_, ?_⟩ <;> omega)

set_option maxHeartbeats 800000 in
theorem eqSched_c (w : World) (c0 : Int) (c1 : Int) (c2 : Int) (c3 : Int) (c4 : Int) (c5 : Int) (c6 : Int) (s7 : Value) (t7 : Value) (d7 : List Int) (c8 : Bool) (c9 : Int) (c10 : Int) (c11 : Int) (c12 : Int) (c13 : Int) (c14 : Int) (h7 : Ints 2 w s7 d7) (k7 : Ints 2 w t7 d7) :
  Calls Try.prog 21 #[.agg #[.int .i64 c0, .int .i64 c1, .int .i64 c2, .int .i64 c3, .int .i64 c4, .int .i64 c5, .int .i64 c6, s7, .bool c8, .int .i64 c9, .int .i64 c10, .int .i64 c11, .int .i64 c12, .int .i64 c13, .int .i64 c14], .agg #[.int .i64 c0, .int .i64 c1, .int .i64 c2, .int .i64 c3, .int .i64 c4, .int .i64 c5, .int .i64 c6, t7, .bool c8, .int .i64 c9, .int .i64 c10, .int .i64 c11, .int .i64 c12, .int .i64 c13, .int .i64 c14]] w (RetV w (.bool true)) := by
 go_enter Try.func21, Try.ntmps21
 go_wp2_with (first | (go_at_call 61; refine (eqView_c _ c2 c3 c4 c5 c6 s7 t7 d7 (h7.ext (by (first | exact extT | omega))) (k7.ext (by (first | exact extT | omega)))).mono ?_; rintro e w1 ⟨rfl, hx1⟩; have hz1 := hx1.size; obtain ⟨hc1, hf1⟩ := hx1.cells; (repeat (first | simp only [World.size_alloc] at hz1 hc1 hf1 | simp only [World.size_setCell] at hz1 hc1 hf1)); have hy1_0 : w.heap.size < w1.heap.size := (by omega); have hy1_1 : w.heap.size + 1 < w1.heap.size := (by omega)) | (go_at_call 62; refine (eqOp_c _ c9 c10 c11 c12 c13).mono ?_; rintro e w2 ⟨rfl, hx2⟩; have hz2 := hx2.size; obtain ⟨hc2, hf2⟩ := hx2.cells; (repeat (first | simp only [World.size_alloc] at hz2 hc2 hf2 | simp only [World.size_setCell] at hz2 hc2 hf2)); have hy2_0 : w.heap.size < w2.heap.size := (by omega); have hy2_1 : w.heap.size + 1 < w2.heap.size := (by omega)))
 go_ret
 refine ⟨rfl, ?_⟩
 (first | exact extT | omega)

set_option maxHeartbeats 800000 in
theorem markSched_c (w : World) (B : Nat) (c0 : Int) (c1 : Int) (c2 : Int) (c3 : Int) (c4 : Int) (c5 : Int) (c6 : Int) (s7 : Value) (d7 : List Int) (L7 : Nat) (hL7 : d7.length = L7 * 2) (c8 : Bool) (c9 : Int) (c10 : Int) (c11 : Int) (c12 : Int) (c13 : Int) (c14 : Int) (q : Int) (h7 : OwnI B 132 2 w s7 d7) (h0 : 0 ≤ q) (h1 : q + (L7 * 2 : Nat) ≤ 4611686018427387904) :
  Calls Try.prog 22 #[.agg #[.int .i64 c0, .int .i64 c1, .int .i64 c2, .int .i64 c3, .int .i64 c4, .int .i64 c5, .int .i64 c6, s7, .bool c8, .int .i64 c9, .int .i64 c10, .int .i64 c11, .int .i64 c12, .int .i64 c13, .int .i64 c14], .int .i64 q] w (RetM w (feet [s7]) (.int .i64 (q + (L7 * 2 : Nat))) fun w' => OwnI B 132 2 w' s7 (run q (L7 * 2))) := by
 go_enter Try.func22, Try.ntmps22
 go_wp2_with (first | (go_at_call 63; refine (markView_c _ B c2 c3 c4 c5 c6 s7 d7 L7 hL7 q (h7.ext (by (first | exact extT | omega))) h0 h1).mono ?_; rintro e w1 ⟨rfl, hx1, g1⟩))
 go_ret
 exact ⟨rfl, (Ext.upd ((Ext.refl w).alloc _) _).trans hx1, g1⟩

set_option maxHeartbeats 800000 in
theorem heldSched_c (w : World) (c0 : Int) (c1 : Int) (c2 : Int) (c3 : Int) (c4 : Int) (c5 : Int) (c6 : Int) (s7 : Value) (L7 : Nat) (c8 : Bool) (c9 : Int) (c10 : Int) (c11 : Int) (c12 : Int) (c13 : Int) (c14 : Int) (q : Int) (h7 : Ints 2 w s7 (run q (L7 * 2))) (h0 : 0 ≤ q) (h1 : q + (L7 * 2 : Nat) ≤ 4611686018427387904) :
  Calls Try.prog 23 #[.agg #[.int .i64 c0, .int .i64 c1, .int .i64 c2, .int .i64 c3, .int .i64 c4, .int .i64 c5, .int .i64 c6, s7, .bool c8, .int .i64 c9, .int .i64 c10, .int .i64 c11, .int .i64 c12, .int .i64 c13, .int .i64 c14], .int .i64 q] w (RetV w (.int .i64 (q + (L7 * 2 : Nat)))) := by
 have ht : decide (q + ((L7 * 2 : Nat) : Int) < 0) = false := by simp; omega
 go_enter Try.func23, Try.ntmps23
 go_wp2_with (first | (go_at_call 64; refine (heldView_c _ c2 c3 c4 c5 c6 s7 L7 q (h7.ext (by (first | exact extT | omega))) h0 h1).mono ?_; rintro e w1 ⟨rfl, hx1⟩; have hz1 := hx1.size; obtain ⟨hc1, hf1⟩ := hx1.cells; (repeat (first | simp only [World.size_alloc] at hz1 hc1 hf1 | simp only [World.size_setCell] at hz1 hc1 hf1)); have hy1_0 : w.heap.size < w1.heap.size := (by omega)))
 go_ret
 refine ⟨rfl, ?_⟩
 (first | exact extT | omega)

end Go.Proofs.Ythihnangjghloaa

-- Disks: right or not.
namespace Go.Proofs.Ythihnangjghloaa
open Go.RowKit Go.G8

end Go.Proofs.Ythihnangjghloaa

-- Snapshot disks: right or not.
namespace Go.Proofs.Ythihnangjghloaa
open Go.RowKit Go.G8

end Go.Proofs.Ythihnangjghloaa
