/- HelpG: contracts of the statements' helper functions on snapshots. -/
import Derived.Test.YtemhbbpbmgpcaaaHelpF
set_option linter.unusedSimpArgs false
set_option linter.unusedVariables false
namespace Go.Proofs.Ytemhbbpbmgpcaaa
open Go.RowKit Go.G8

set_option maxHeartbeats 800000 in
theorem toPair_c (w : World) (x0 x1 : Int) :
    Calls Try.prog 84 #[.agg #[.int .i64 x0, .int .i64 x1]] w (RetV w (.agg #[.int .i64 x0, .int .i64 x1])) := by
  go_enter Try.func84, Try.ntmps84
  go_wp2
  refine bodyPost_ret (v := .agg #[.int .i64 x0, .int .i64 x1]) (by simp [results, Try.results84, go_sem]) rfl ⟨rfl, ?_⟩
  repeat' (first | (with_reducible exact Ext.refl _) | (with_reducible assumption) | (with_reducible refine Ext.drewN ?_ _) | (with_reducible refine Ext.drew ?_) | (with_reducible refine Ext.alloc ?_ _) | (with_reducible refine Ext.setCell ?_ ?_ _) | (with_reducible exact Nat.le_refl _) | (with_reducible refine Ext.trans ?_ (by assumption)) | omega)

set_option maxHeartbeats 800000 in
theorem toPairS_c (w : World) (v : Value) (xs : List Int) (L : Nat) (hL : xs.length = L * 2) (h : Ints 2 w v xs) (hs : L ≤ 1048576) :
    Calls Try.prog 52 #[v] w (Ret w fun v' w' => OwnI w.heap.size 106 2 w' v' xs) := by
  obtain ⟨a, len, ca, rfl, hl, hca, hm, ha⟩ := h.open_
  obtain rfl : L = len := by omega
  have HA := Lib.hid ha; have HL := Lib.hid hl
  clear ha hl hL
  unfold maxLen at hm
  obtain ⟨i0, hi, hz0, hz1, hz2⟩ := info_parts info_Pair
  go_enter Try.func52, Try.ntmps52
  have hmk := fun W => run_make (P := Try.prog) W 33 106 i0 _ Try.underlying33 hi hz0 .i64 .i64 L L (by omega) (by omega) (by rw [hz2]; omega) (by omega)
  simp only [Int.toNat_natCast, hz1] at hmk
  go_wp2
  clear hmk
  go_loopw [4] (fun i wr => ∃ k : Nat, k ≤ L ∧ i = .int .i64 k ∧ Ext w wr ∧ ∃ cur, Blk wr w.heap.size 106 cur ∧ cur.size = L * 2 ∧ Pre cur (k * 2) (xs.map (.int .i64))) (fun i _ => L - (intOf i).toNat)
  case atStart => exact ⟨0, Nat.zero_le _, rfl, (Ext.refl _).alloc _, _, Blk.new _ _ _, by simp [size_madeCells], by simpa using Pre.zero _ _⟩
  case round =>
    obtain ⟨k, hk, rfl, he, cur, hblk, hsz, hpre⟩ := hrel
    by_cases hlt : k < L
    · obtain ⟨b1, o1, rfl, _, c1⟩ := HA.out k hlt
      obtain ⟨x0, hx0, c10⟩ := c1 0 (by omega)
      obtain ⟨x1, hx1, c11⟩ := c1 1 (by omega)
      have d0 := he.cell c10; have d1 := he.cell c11
      simp only [Nat.add_zero] at d0
      clear c1 c10 c11
      have HX0 := Lib.hid hx0; have HX1 := Lib.hid hx1
      have HS := Lib.hid hsz
      clear hx0 hx1 hsz
      go_wp2_with (first | (go_at_call 84; refine (toPair_c _ _ _).mono ?_; rintro e w1 ⟨rfl, hx⟩; have hb1 := hblk.ext hx; obtain ⟨z0, g0⟩ : ∃ z, w1.cell? ⟨w.heap.size, k * 2, none⟩ = some z := ⟨_, by rw [hb1.cell]; exact Array.getElem?_eq_getElem (by have := HS.out; omega)⟩; obtain ⟨z1, g1⟩ : ∃ z, w1.cell? ⟨w.heap.size, k * 2 + 1, none⟩ = some z := ⟨_, by rw [hb1.cell]; exact Array.getElem?_eq_getElem (by have := HS.out; omega)⟩; have f0 := hb1.frozen (k * 2); have f1 := hb1.frozen (k * 2 + 1)))
      go_roundw
      case rel => exact ⟨k + 1, by omega, by go_num, (((he.trans hx).setCell (Nat.le_refl _) _).setCell (Nat.le_refl _) _), _, ((hb1.set_ _ _).set_ _ _), by simp; exact HS.out, ((hpre.set (by simpa using HX0.out) (by have := HS.out; omega)).set (by simpa using HX1.out) (by have := HS.out; simp; omega)).cast (by omega)⟩
      case measure => simp [intOf]; omega
    · obtain rfl : k = L := by omega
      go_wp2
      go_ret
      exact ⟨_, rfl, he, Own.of_blk hblk (Nat.le_refl _) hsz (by simpa using HL.out) (Nat.le_refl _) (by unfold maxLen; omega) hpre⟩

set_option maxHeartbeats 800000 in
theorem szPairS_c (w : World) (v : Value) (xs : List Int) (L : Nat) (hL : xs.length = L * 2) (left : Int) (h : Ints 2 w v xs) (h0 : 0 ≤ left) (h1 : left ≤ 1048576) :
    Calls Try.prog 42 #[v, .int .i64 left] w (Ret w fun v' _ => SzR left L v') := by
  obtain ⟨a, len, ca, rfl, hl, hca, hm, -⟩ := h.open_
  obtain rfl : L = len := by omega
  clear h hl hL
  unfold maxLen at hm
  by_cases hlt : left < L
  · have ht : decide (left - (L : Int) < 0) = true := by simp; omega
    go_enter Try.func42, Try.ntmps42
    go_wp2
    go_ret
    exact ⟨_, rfl, Ext.refl _, .inl ⟨rfl, hlt⟩⟩
  · have ht : decide (left - (L : Int) < 0) = false := by simp; omega
    go_enter Try.func42, Try.ntmps42
    go_wp2
    go_ret
    exact ⟨_, rfl, Ext.refl _, .inr ⟨rfl, by omega⟩⟩

set_option maxHeartbeats 800000 in
theorem toJob_c (w : World) (x0 x1 x2 x3 x4 : Int) :
    Calls Try.prog 85 #[.agg #[.int .i64 x0, .int .i64 x1, .int .i64 x2, .int .i64 x3, .int .i64 x4]] w (RetV w (.agg #[.int .i64 x0, .int .i64 x1, .int .i64 x2, .int .i64 x3, .int .i64 x4])) := by
  go_enter Try.func85, Try.ntmps85
  go_wp2
  refine bodyPost_ret (v := .agg #[.int .i64 x0, .int .i64 x1, .int .i64 x2, .int .i64 x3, .int .i64 x4]) (by simp [results, Try.results85, go_sem]) rfl ⟨rfl, ?_⟩
  repeat' (first | (with_reducible exact Ext.refl _) | (with_reducible assumption) | (with_reducible refine Ext.drewN ?_ _) | (with_reducible refine Ext.drew ?_) | (with_reducible refine Ext.alloc ?_ _) | (with_reducible refine Ext.setCell ?_ ?_ _) | (with_reducible exact Nat.le_refl _) | (with_reducible refine Ext.trans ?_ (by assumption)) | omega)

set_option maxHeartbeats 800000 in
theorem toJobS_c (w : World) (v : Value) (xs : List Int) (L : Nat) (hL : xs.length = L * 5) (h : Ints 5 w v xs) (hs : L ≤ 1048576) :
    Calls Try.prog 53 #[v] w (Ret w fun v' w' => OwnI w.heap.size 104 5 w' v' xs) := by
  obtain ⟨a, len, ca, rfl, hl, hca, hm, ha⟩ := h.open_
  obtain rfl : L = len := by omega
  have HA := Lib.hid ha; have HL := Lib.hid hl
  clear ha hl hL
  unfold maxLen at hm
  obtain ⟨i0, hi, hz0, hz1, hz2⟩ := info_parts info_Job
  go_enter Try.func53, Try.ntmps53
  have hmk := fun W => run_make (P := Try.prog) W 34 104 i0 _ Try.underlying34 hi hz0 .i64 .i64 L L (by omega) (by omega) (by rw [hz2]; omega) (by omega)
  simp only [Int.toNat_natCast, hz1] at hmk
  go_wp2
  clear hmk
  go_loopw [4] (fun i wr => ∃ k : Nat, k ≤ L ∧ i = .int .i64 k ∧ Ext w wr ∧ ∃ cur, Blk wr w.heap.size 104 cur ∧ cur.size = L * 5 ∧ Pre cur (k * 5) (xs.map (.int .i64))) (fun i _ => L - (intOf i).toNat)
  case atStart => exact ⟨0, Nat.zero_le _, rfl, (Ext.refl _).alloc _, _, Blk.new _ _ _, by simp [size_madeCells], by simpa using Pre.zero _ _⟩
  case round =>
    obtain ⟨k, hk, rfl, he, cur, hblk, hsz, hpre⟩ := hrel
    by_cases hlt : k < L
    · obtain ⟨b1, o1, rfl, _, c1⟩ := HA.out k hlt
      obtain ⟨x0, hx0, c10⟩ := c1 0 (by omega)
      obtain ⟨x1, hx1, c11⟩ := c1 1 (by omega)
      obtain ⟨x2, hx2, c12⟩ := c1 2 (by omega)
      obtain ⟨x3, hx3, c13⟩ := c1 3 (by omega)
      obtain ⟨x4, hx4, c14⟩ := c1 4 (by omega)
      have d0 := he.cell c10; have d1 := he.cell c11; have d2 := he.cell c12; have d3 := he.cell c13; have d4 := he.cell c14
      simp only [Nat.add_zero] at d0
      clear c1 c10 c11 c12 c13 c14
      have HX0 := Lib.hid hx0; have HX1 := Lib.hid hx1; have HX2 := Lib.hid hx2; have HX3 := Lib.hid hx3; have HX4 := Lib.hid hx4
      have HS := Lib.hid hsz
      clear hx0 hx1 hx2 hx3 hx4 hsz
      go_wp2_with (first | (go_at_call 85; refine (toJob_c _ _ _ _ _ _).mono ?_; rintro e w1 ⟨rfl, hx⟩; have hb1 := hblk.ext hx; obtain ⟨z0, g0⟩ : ∃ z, w1.cell? ⟨w.heap.size, k * 5, none⟩ = some z := ⟨_, by rw [hb1.cell]; exact Array.getElem?_eq_getElem (by have := HS.out; omega)⟩; obtain ⟨z1, g1⟩ : ∃ z, w1.cell? ⟨w.heap.size, k * 5 + 1, none⟩ = some z := ⟨_, by rw [hb1.cell]; exact Array.getElem?_eq_getElem (by have := HS.out; omega)⟩; obtain ⟨z2, g2⟩ : ∃ z, w1.cell? ⟨w.heap.size, k * 5 + 2, none⟩ = some z := ⟨_, by rw [hb1.cell]; exact Array.getElem?_eq_getElem (by have := HS.out; omega)⟩; obtain ⟨z3, g3⟩ : ∃ z, w1.cell? ⟨w.heap.size, k * 5 + 3, none⟩ = some z := ⟨_, by rw [hb1.cell]; exact Array.getElem?_eq_getElem (by have := HS.out; omega)⟩; obtain ⟨z4, g4⟩ : ∃ z, w1.cell? ⟨w.heap.size, k * 5 + 4, none⟩ = some z := ⟨_, by rw [hb1.cell]; exact Array.getElem?_eq_getElem (by have := HS.out; omega)⟩; have f0 := hb1.frozen (k * 5); have f1 := hb1.frozen (k * 5 + 1); have f2 := hb1.frozen (k * 5 + 2); have f3 := hb1.frozen (k * 5 + 3); have f4 := hb1.frozen (k * 5 + 4)))
      go_roundw
      case rel => exact ⟨k + 1, by omega, by go_num, ((((((he.trans hx).setCell (Nat.le_refl _) _).setCell (Nat.le_refl _) _).setCell (Nat.le_refl _) _).setCell (Nat.le_refl _) _).setCell (Nat.le_refl _) _), _, (((((hb1.set_ _ _).set_ _ _).set_ _ _).set_ _ _).set_ _ _), by simp; exact HS.out, (((((hpre.set (by simpa using HX0.out) (by have := HS.out; omega)).set (by simpa using HX1.out) (by have := HS.out; simp; omega)).set (by simpa using HX2.out) (by have := HS.out; simp; omega)).set (by simpa using HX3.out) (by have := HS.out; simp; omega)).set (by simpa using HX4.out) (by have := HS.out; simp; omega)).cast (by omega)⟩
      case measure => simp [intOf]; omega
    · obtain rfl : k = L := by omega
      go_wp2
      go_ret
      exact ⟨_, rfl, he, Own.of_blk hblk (Nat.le_refl _) hsz (by simpa using HL.out) (Nat.le_refl _) (by unfold maxLen; omega) hpre⟩

set_option maxHeartbeats 800000 in
theorem szJobS_c (w : World) (v : Value) (xs : List Int) (L : Nat) (hL : xs.length = L * 5) (left : Int) (h : Ints 5 w v xs) (h0 : 0 ≤ left) (h1 : left ≤ 1048576) :
    Calls Try.prog 43 #[v, .int .i64 left] w (Ret w fun v' _ => SzR left L v') := by
  obtain ⟨a, len, ca, rfl, hl, hca, hm, -⟩ := h.open_
  obtain rfl : L = len := by omega
  clear h hl hL
  unfold maxLen at hm
  by_cases hlt : left < L
  · have ht : decide (left - (L : Int) < 0) = true := by simp; omega
    go_enter Try.func43, Try.ntmps43
    go_wp2
    go_ret
    exact ⟨_, rfl, Ext.refl _, .inl ⟨rfl, hlt⟩⟩
  · have ht : decide (left - (L : Int) < 0) = false := by simp; omega
    go_enter Try.func43, Try.ntmps43
    go_wp2
    go_ret
    exact ⟨_, rfl, Ext.refl _, .inr ⟨rfl, by omega⟩⟩

set_option maxHeartbeats 800000 in
theorem toLease_c (w : World) (x0 x1 x2 : Int) :
    Calls Try.prog 54 #[.agg #[.int .i64 x0, .int .i64 x1, .int .i64 x2]] w (RetV w (.agg #[.int .i64 x0, .int .i64 x1, .int .i64 x2])) := by
  go_enter Try.func54, Try.ntmps54
  go_wp2
  refine bodyPost_ret (v := .agg #[.int .i64 x0, .int .i64 x1, .int .i64 x2]) (by simp [results, Try.results54, go_sem]) rfl ⟨rfl, ?_⟩
  repeat' (first | (with_reducible exact Ext.refl _) | (with_reducible assumption) | (with_reducible refine Ext.drewN ?_ _) | (with_reducible refine Ext.drew ?_) | (with_reducible refine Ext.alloc ?_ _) | (with_reducible refine Ext.setCell ?_ ?_ _) | (with_reducible exact Nat.le_refl _) | (with_reducible refine Ext.trans ?_ (by assumption)) | omega)

set_option maxHeartbeats 800000 in
theorem toState_c (w : World) (c0 : Int) (c1 : Int) (s2 : Value) (d2 : List Int) (L2 : Nat) (hL2 : d2.length = L2 * 2) (s3 : Value) (d3 : List Int) (L3 : Nat) (hL3 : d3.length = L3 * 5) (c4 : Int) (c5 : Int) (c6 : Int) (h2 : Ints 2 w s2 d2) (hs2 : L2 ≤ 1048576) (h3 : Ints 5 w s3 d3) (hs3 : L3 ≤ 1048576) :
    Calls Try.prog 23 #[.agg #[.int .i64 c0, .int .i64 c1, s2, s3, .int .i64 c4, .int .i64 c5, .int .i64 c6]] w (Ret w fun v w' => ∃ t2 t3 : Value, v = .agg #[.int .i64 c0, .int .i64 c1, t2, t3, .int .i64 c4, .int .i64 c5, .int .i64 c6] ∧ OwnI w.heap.size 106 2 w' t2 d2 ∧ OwnI w.heap.size 104 5 w' t3 d3) := by
  go_enter Try.func23, Try.ntmps23
  go_wp2_with (first | (go_at_call 52; refine (toPairS_c _ s2 d2 L2 hL2 (h2.ext (by repeat' (first | (with_reducible exact Ext.refl _) | (with_reducible assumption) | (with_reducible refine Ext.drewN ?_ _) | (with_reducible refine Ext.drew ?_) | (with_reducible refine Ext.alloc ?_ _) | (with_reducible refine Ext.setCell ?_ ?_ _) | (with_reducible exact Nat.le_refl _) | (with_reducible refine Ext.trans ?_ (by assumption)) | omega))) hs2).mono ?_; rintro e w1 ⟨t2, rfl, hx1, g2⟩; obtain ⟨ta2, tn2, tc2, rfl⟩ := g2.shape; have hz1 := hx1.size; obtain ⟨hc1, hf1⟩ := hx1.cells; (repeat (first | simp only [World.size_alloc] at hz1 hc1 hf1 g2 | simp only [World.size_setCell] at hz1 hc1 hf1 g2)); have hy1_0 : w.heap.size < w1.heap.size := (by omega); have hy1_1 : w.heap.size + 1 < w1.heap.size := (by omega); have hy1_2 : w.heap.size + 1 + 1 < w1.heap.size := (by omega)) | (go_at_call 53; refine (toJobS_c _ s3 d3 L3 hL3 (h3.ext (by repeat' (first | (with_reducible exact Ext.refl _) | (with_reducible assumption) | (with_reducible refine Ext.drewN ?_ _) | (with_reducible refine Ext.drew ?_) | (with_reducible refine Ext.alloc ?_ _) | (with_reducible refine Ext.setCell ?_ ?_ _) | (with_reducible exact Nat.le_refl _) | (with_reducible refine Ext.trans ?_ (by assumption)) | omega))) hs3).mono ?_; rintro e w2 ⟨t3, rfl, hx2, g3⟩; obtain ⟨ta3, tn3, tc3, rfl⟩ := g3.shape; have hz2 := hx2.size; obtain ⟨hc2, hf2⟩ := hx2.cells; (repeat (first | simp only [World.size_alloc] at hz2 hc2 hf2 g3 | simp only [World.size_setCell] at hz2 hc2 hf2 g3)); have hy2_0 : w.heap.size < w2.heap.size := (by omega); have hy2_1 : w.heap.size + 1 < w2.heap.size := (by omega); have hy2_2 : w.heap.size + 1 + 1 < w2.heap.size := (by omega)) | (go_at_call 54; refine (toLease_c _ c4 c5 c6).mono ?_; rintro e w3 ⟨rfl, hx3⟩; have hz3 := hx3.size; obtain ⟨hc3, hf3⟩ := hx3.cells; (repeat (first | simp only [World.size_alloc] at hz3 hc3 hf3 | simp only [World.size_setCell] at hz3 hc3 hf3)); have hy3_0 : w.heap.size < w3.heap.size := (by omega); have hy3_1 : w.heap.size + 1 < w3.heap.size := (by omega); have hy3_2 : w.heap.size + 1 + 1 < w3.heap.size := (by omega)))
  refine bodyPost_ret (v := .agg #[.int .i64 c0, .int .i64 c1, .slice ta2 tn2 tc2, .slice ta3 tn3 tc3, .int .i64 c4, .int .i64 c5, .int .i64 c6]) ?_ rfl ?_
  · simp [results, Try.results23, go_sem, *]
  · refine ⟨_, rfl, ?_, _, _, rfl, (g2.keep ?_).mono ?_, (g3.keep ?_).mono ?_⟩
    all_goals clear hc1 hf1 hc2 hf2 hc3 hf3
    · repeat' (first | (with_reducible exact Ext.refl _) | (with_reducible assumption) | (with_reducible refine Ext.drewN ?_ _) | (with_reducible refine Ext.drew ?_) | (with_reducible refine Ext.alloc ?_ _) | (with_reducible refine Ext.setCell ?_ ?_ _) | (with_reducible exact Nat.le_refl _) | (with_reducible refine Ext.trans ?_ (by assumption)) | omega)
    · repeat' (first | (with_reducible exact Chg.refl _ _) | (with_reducible refine Chg.drewN ?_ _) | (with_reducible refine Chg.drew ?_) | (with_reducible refine Chg.alloc ?_ _) | (with_reducible refine Chg.setLow ?_ ?_ _) | (with_reducible refine Chg.ext ?_ (by assumption)) | omega)
    · omega
    · repeat' (first | (with_reducible exact Chg.refl _ _) | (with_reducible refine Chg.drewN ?_ _) | (with_reducible refine Chg.drew ?_) | (with_reducible refine Chg.alloc ?_ _) | (with_reducible refine Chg.setLow ?_ ?_ _) | (with_reducible refine Chg.ext ?_ (by assumption)) | omega)
    · omega

set_option maxHeartbeats 800000 in
theorem szState_c (w : World) (c0 : Int) (c1 : Int) (s2 : Value) (d2 : List Int) (L2 : Nat) (hL2 : d2.length = L2 * 2) (s3 : Value) (d3 : List Int) (L3 : Nat) (hL3 : d3.length = L3 * 5) (c4 : Int) (c5 : Int) (c6 : Int) (left : Int) (h2 : Ints 2 w s2 d2) (h3 : Ints 5 w s3 d3) (h0 : 0 ≤ left) (h1 : left ≤ 1048576) :
    Calls Try.prog 19 #[.agg #[.int .i64 c0, .int .i64 c1, s2, s3, .int .i64 c4, .int .i64 c5, .int .i64 c6], .int .i64 left] w (Ret w fun v' _ => SzR left (L2 + L3) v') := by
  go_enter Try.func19, Try.ntmps19
  go_wp2_with (first | (go_at_call 42; refine (szPairS_c _ s2 d2 L2 hL2 _ (h2.ext (by repeat' (first | (with_reducible exact Ext.refl _) | (with_reducible assumption) | (with_reducible refine Ext.drewN ?_ _) | (with_reducible refine Ext.drew ?_) | (with_reducible refine Ext.alloc ?_ _) | (with_reducible refine Ext.setCell ?_ ?_ _) | (with_reducible exact Nat.le_refl _) | (with_reducible refine Ext.trans ?_ (by assumption)) | omega))) (by omega) (by omega)).mono ?_; rintro e w1 ⟨v1, rfl, hx1, hv⟩; have hz1 := hx1.size; obtain ⟨hc1, hf1⟩ := hx1.cells; (repeat (first | simp only [World.size_alloc] at hz1 hc1 hf1 | simp only [World.size_setCell] at hz1 hc1 hf1)); have hy1_0 : w.heap.size < w1.heap.size := (by omega); rcases hv with ⟨rfl, q1⟩ | ⟨rfl, q1⟩) | (go_at_call 43; refine (szJobS_c _ s3 d3 L3 hL3 _ (h3.ext (by repeat' (first | (with_reducible exact Ext.refl _) | (with_reducible assumption) | (with_reducible refine Ext.drewN ?_ _) | (with_reducible refine Ext.drew ?_) | (with_reducible refine Ext.alloc ?_ _) | (with_reducible refine Ext.setCell ?_ ?_ _) | (with_reducible exact Nat.le_refl _) | (with_reducible refine Ext.trans ?_ (by assumption)) | omega))) (by omega) (by omega)).mono ?_; rintro e w2 ⟨v2, rfl, hx2, hv⟩; have hz2 := hx2.size; obtain ⟨hc2, hf2⟩ := hx2.cells; (repeat (first | simp only [World.size_alloc] at hz2 hc2 hf2 | simp only [World.size_setCell] at hz2 hc2 hf2)); have hy2_0 : w.heap.size < w2.heap.size := (by omega); rcases hv with ⟨rfl, q2⟩ | ⟨rfl, q2⟩))
  all_goals
    go_ret
    refine ⟨_, rfl, ?_, ?_⟩
    · repeat' (first | (with_reducible exact Ext.refl _) | (with_reducible assumption) | (with_reducible refine Ext.drewN ?_ _) | (with_reducible refine Ext.drew ?_) | (with_reducible refine Ext.alloc ?_ _) | (with_reducible refine Ext.setCell ?_ ?_ _) | (with_reducible exact Nat.le_refl _) | (with_reducible refine Ext.trans ?_ (by assumption)) | omega)
    · first | exact .inl ⟨rfl, by omega⟩ | (refine .inr ⟨congrArg (Value.int .i64) ?_, ?_⟩ <;> omega)

set_option maxHeartbeats 800000 in
theorem toShot_c (w : World) (c0 : Int) (c1 : Int) (c2 : Int) (s3 : Value) (d3 : List Int) (L3 : Nat) (hL3 : d3.length = L3 * 2) (s4 : Value) (d4 : List Int) (L4 : Nat) (hL4 : d4.length = L4 * 5) (c5 : Int) (c6 : Int) (c7 : Int) (h3 : Ints 2 w s3 d3) (hs3 : L3 ≤ 1048576) (h4 : Ints 5 w s4 d4) (hs4 : L4 ≤ 1048576) :
    Calls Try.prog 7 #[.agg #[.int .i64 c0, .int .i64 c1, .int .i64 c2, s3, s4, .int .i64 c5, .int .i64 c6, .int .i64 c7]] w (Ret w fun v w' => ∃ t3 t4 : Value, v = .agg #[.int .i64 c0, .int .i64 c1, .int .i64 c2, t3, t4, .int .i64 c5, .int .i64 c6, .int .i64 c7] ∧ OwnI w.heap.size 106 2 w' t3 d3 ∧ OwnI w.heap.size 104 5 w' t4 d4) := by
  go_enter Try.func7, Try.ntmps7
  go_wp2_with (first | (go_at_call 23; refine (toState_c _ c1 c2 s3 d3 L3 hL3 s4 d4 L4 hL4 c5 c6 c7 (h3.ext (by repeat' (first | (with_reducible exact Ext.refl _) | (with_reducible assumption) | (with_reducible refine Ext.drewN ?_ _) | (with_reducible refine Ext.drew ?_) | (with_reducible refine Ext.alloc ?_ _) | (with_reducible refine Ext.setCell ?_ ?_ _) | (with_reducible exact Nat.le_refl _) | (with_reducible refine Ext.trans ?_ (by assumption)) | omega))) hs3 (h4.ext (by repeat' (first | (with_reducible exact Ext.refl _) | (with_reducible assumption) | (with_reducible refine Ext.drewN ?_ _) | (with_reducible refine Ext.drew ?_) | (with_reducible refine Ext.alloc ?_ _) | (with_reducible refine Ext.setCell ?_ ?_ _) | (with_reducible exact Nat.le_refl _) | (with_reducible refine Ext.trans ?_ (by assumption)) | omega))) hs4).mono ?_; rintro e w1 ⟨_, rfl, hx1, t3, t4, rfl, g3, g4⟩; obtain ⟨ta3, tn3, tc3, rfl⟩ := g3.shape; obtain ⟨ta4, tn4, tc4, rfl⟩ := g4.shape; have hz1 := hx1.size; obtain ⟨hc1, hf1⟩ := hx1.cells; (repeat (first | simp only [World.size_alloc] at hz1 hc1 hf1 g3 g4 | simp only [World.size_setCell] at hz1 hc1 hf1 g3 g4)); have hy1_0 : w.heap.size < w1.heap.size := (by omega); have hy1_1 : w.heap.size + 1 < w1.heap.size := (by omega); have hy1_2 : w.heap.size + 1 + 1 < w1.heap.size := (by omega)))
  refine bodyPost_ret (v := .agg #[.int .i64 c0, .int .i64 c1, .int .i64 c2, .slice ta3 tn3 tc3, .slice ta4 tn4 tc4, .int .i64 c5, .int .i64 c6, .int .i64 c7]) ?_ rfl ?_
  · simp [results, Try.results7, go_sem, *]
  · refine ⟨_, rfl, ?_, _, _, rfl, (g3.keep ?_).mono ?_, (g4.keep ?_).mono ?_⟩
    all_goals clear hc1 hf1
    · repeat' (first | (with_reducible exact Ext.refl _) | (with_reducible assumption) | (with_reducible refine Ext.drewN ?_ _) | (with_reducible refine Ext.drew ?_) | (with_reducible refine Ext.alloc ?_ _) | (with_reducible refine Ext.setCell ?_ ?_ _) | (with_reducible exact Nat.le_refl _) | (with_reducible refine Ext.trans ?_ (by assumption)) | omega)
    · repeat' (first | (with_reducible exact Chg.refl _ _) | (with_reducible refine Chg.drewN ?_ _) | (with_reducible refine Chg.drew ?_) | (with_reducible refine Chg.alloc ?_ _) | (with_reducible refine Chg.setLow ?_ ?_ _) | (with_reducible refine Chg.ext ?_ (by assumption)) | omega)
    · omega
    · repeat' (first | (with_reducible exact Chg.refl _ _) | (with_reducible refine Chg.drewN ?_ _) | (with_reducible refine Chg.drew ?_) | (with_reducible refine Chg.alloc ?_ _) | (with_reducible refine Chg.setLow ?_ ?_ _) | (with_reducible refine Chg.ext ?_ (by assumption)) | omega)
    · omega

set_option maxHeartbeats 800000 in
theorem szShot_c (w : World) (c0 : Int) (c1 : Int) (c2 : Int) (s3 : Value) (d3 : List Int) (L3 : Nat) (hL3 : d3.length = L3 * 2) (s4 : Value) (d4 : List Int) (L4 : Nat) (hL4 : d4.length = L4 * 5) (c5 : Int) (c6 : Int) (c7 : Int) (left : Int) (h3 : Ints 2 w s3 d3) (h4 : Ints 5 w s4 d4) (h0 : 0 ≤ left) (h1 : left ≤ 1048576) :
    Calls Try.prog 5 #[.agg #[.int .i64 c0, .int .i64 c1, .int .i64 c2, s3, s4, .int .i64 c5, .int .i64 c6, .int .i64 c7], .int .i64 left] w (Ret w fun v' _ => SzR left (L3 + L4) v') := by
  go_enter Try.func5, Try.ntmps5
  go_wp2_with (first | (go_at_call 19; refine (szState_c _ c1 c2 s3 d3 L3 hL3 s4 d4 L4 hL4 c5 c6 c7 _ (h3.ext (by repeat' (first | (with_reducible exact Ext.refl _) | (with_reducible assumption) | (with_reducible refine Ext.drewN ?_ _) | (with_reducible refine Ext.drew ?_) | (with_reducible refine Ext.alloc ?_ _) | (with_reducible refine Ext.setCell ?_ ?_ _) | (with_reducible exact Nat.le_refl _) | (with_reducible refine Ext.trans ?_ (by assumption)) | omega))) (h4.ext (by repeat' (first | (with_reducible exact Ext.refl _) | (with_reducible assumption) | (with_reducible refine Ext.drewN ?_ _) | (with_reducible refine Ext.drew ?_) | (with_reducible refine Ext.alloc ?_ _) | (with_reducible refine Ext.setCell ?_ ?_ _) | (with_reducible exact Nat.le_refl _) | (with_reducible refine Ext.trans ?_ (by assumption)) | omega))) (by omega) (by omega)).mono ?_; rintro e w1 ⟨v1, rfl, hx1, hv⟩; have hz1 := hx1.size; obtain ⟨hc1, hf1⟩ := hx1.cells; (repeat (first | simp only [World.size_alloc] at hz1 hc1 hf1 | simp only [World.size_setCell] at hz1 hc1 hf1)); have hy1_0 : w.heap.size < w1.heap.size := (by omega); rcases hv with ⟨rfl, q1⟩ | ⟨rfl, q1⟩))
  all_goals
    go_ret
    refine ⟨_, rfl, ?_, ?_⟩
    · repeat' (first | (with_reducible exact Ext.refl _) | (with_reducible assumption) | (with_reducible refine Ext.drewN ?_ _) | (with_reducible refine Ext.drew ?_) | (with_reducible refine Ext.alloc ?_ _) | (with_reducible refine Ext.setCell ?_ ?_ _) | (with_reducible exact Nat.le_refl _) | (with_reducible refine Ext.trans ?_ (by assumption)) | omega)
    · first | exact .inl ⟨rfl, by omega⟩ | (refine .inr ⟨congrArg (Value.int .i64) ?_, ?_⟩ <;> omega)

set_option maxHeartbeats 800000 in
theorem eqShot_c (w : World) (c0 : Int) (c1 : Int) (c2 : Int) (s3 : Value) (t3 : Value) (d3 : List Int) (s4 : Value) (t4 : Value) (d4 : List Int) (c5 : Int) (c6 : Int) (c7 : Int) (h3 : Ints 2 w s3 d3) (k3 : Ints 2 w t3 d3) (h4 : Ints 5 w s4 d4) (k4 : Ints 5 w t4 d4) :
    Calls Try.prog 10 #[.agg #[.int .i64 c0, .int .i64 c1, .int .i64 c2, s3, s4, .int .i64 c5, .int .i64 c6, .int .i64 c7], .agg #[.int .i64 c0, .int .i64 c1, .int .i64 c2, t3, t4, .int .i64 c5, .int .i64 c6, .int .i64 c7]] w (RetV w (.bool true)) := by
  go_enter Try.func10, Try.ntmps10
  go_wp2_with (first | (go_at_call 29; refine (eqState_c _ c1 c2 s3 t3 d3 s4 t4 d4 c5 c6 c7 (h3.ext (by repeat' (first | (with_reducible exact Ext.refl _) | (with_reducible assumption) | (with_reducible refine Ext.drewN ?_ _) | (with_reducible refine Ext.drew ?_) | (with_reducible refine Ext.alloc ?_ _) | (with_reducible refine Ext.setCell ?_ ?_ _) | (with_reducible exact Nat.le_refl _) | (with_reducible refine Ext.trans ?_ (by assumption)) | omega))) (k3.ext (by repeat' (first | (with_reducible exact Ext.refl _) | (with_reducible assumption) | (with_reducible refine Ext.drewN ?_ _) | (with_reducible refine Ext.drew ?_) | (with_reducible refine Ext.alloc ?_ _) | (with_reducible refine Ext.setCell ?_ ?_ _) | (with_reducible exact Nat.le_refl _) | (with_reducible refine Ext.trans ?_ (by assumption)) | omega))) (h4.ext (by repeat' (first | (with_reducible exact Ext.refl _) | (with_reducible assumption) | (with_reducible refine Ext.drewN ?_ _) | (with_reducible refine Ext.drew ?_) | (with_reducible refine Ext.alloc ?_ _) | (with_reducible refine Ext.setCell ?_ ?_ _) | (with_reducible exact Nat.le_refl _) | (with_reducible refine Ext.trans ?_ (by assumption)) | omega))) (k4.ext (by repeat' (first | (with_reducible exact Ext.refl _) | (with_reducible assumption) | (with_reducible refine Ext.drewN ?_ _) | (with_reducible refine Ext.drew ?_) | (with_reducible refine Ext.alloc ?_ _) | (with_reducible refine Ext.setCell ?_ ?_ _) | (with_reducible exact Nat.le_refl _) | (with_reducible refine Ext.trans ?_ (by assumption)) | omega)))).mono ?_; rintro e w1 ⟨rfl, hx1⟩; have hz1 := hx1.size; obtain ⟨hc1, hf1⟩ := hx1.cells; (repeat (first | simp only [World.size_alloc] at hz1 hc1 hf1 | simp only [World.size_setCell] at hz1 hc1 hf1)); have hy1_0 : w.heap.size < w1.heap.size := (by omega); have hy1_1 : w.heap.size + 1 < w1.heap.size := (by omega)))
  go_ret
  refine ⟨rfl, ?_⟩
  repeat' (first | (with_reducible exact Ext.refl _) | (with_reducible assumption) | (with_reducible refine Ext.drewN ?_ _) | (with_reducible refine Ext.drew ?_) | (with_reducible refine Ext.alloc ?_ _) | (with_reducible refine Ext.setCell ?_ ?_ _) | (with_reducible exact Nat.le_refl _) | (with_reducible refine Ext.trans ?_ (by assumption)) | omega)

end Go.Proofs.Ytemhbbpbmgpcaaa
