/- Contracts and plain laws: HelpA HelpC V1 S1 S4 HelpD HelpE HelpF HelpG. -/
import Derived.Test.YthihnangjghloaaRows
import Derived.Test.YthihnangjghloaaLa
set_option linter.unusedSimpArgs false
set_option linter.unusedVariables false
-- HelpA: contracts of the statements' helper functions.
namespace Go.Proofs.Ythihnangjghloaa
open Go.RowKit Go.G8

theorem info_Int64 : (Try.prog.info? 2).map (fun i => (i.zero, i.size, i.bytes)) = some (some (.int .i64 0), 1, 8) := by kernel_rfl

theorem info_Due : (Try.prog.info? 132).map (fun i => (i.zero, i.size, i.bytes)) = some (some (.agg #[.int .i64 0, .int .i64 0]), 2, 16) := by kernel_rfl



set_option maxHeartbeats 800000 in
theorem eqInt64S_c (w : World) (va vb : Value) (xs : List Int) (ha : Ints 1 w va xs) (hb : Ints 1 w vb xs) :
  Calls Try.prog 112 #[va, vb] w (RetV w (.bool true)) := by
 obtain ⟨a, len, ca, rfl, hl, hca, hm, ha'⟩ := ha.open_
 obtain ⟨b, len', cb, rfl, hl', _, _, hb'⟩ := hb.open_
 obtain rfl : len = len' := by omega
 have HA := Lib.hid ha'; have HB := Lib.hid hb'
 clear ha' hb' hl hl' ha hb
 unfold maxLen at hm
 go_enter Try.func112, Try.ntmps112
 go_wp2
 go_loopw [5] (fun i wr => ∃ k : Nat, k ≤ len ∧ i = .int .i64 k ∧ Ext w wr) (fun i _ => len - (intOf i).toNat)
 case atStart => exact ⟨0, Nat.zero_le _, rfl, Ext.refl _⟩
 case round =>
  obtain ⟨k, hk, rfl, he⟩ := hrel
  by_cases hlt : k < len
  ·
   obtain ⟨b1, o1, rfl, _, c1⟩ := HA.out k hlt
   obtain ⟨b2, o2, rfl, _, c2⟩ := HB.out k hlt
   obtain ⟨x0, hx0, c10⟩ := c1 0 (by omega)
   obtain ⟨y0, hy0, c20⟩ := c2 0 (by omega)
   obtain rfl : x0 = y0 := by rw [hx0] at hy0; exact Option.some.inj hy0
   have d0 := he.cell c10; have e0 := he.cell c20
   simp only [Nat.add_zero, Nat.mul_one] at d0 e0
   clear c1 c2 c10 c20 hx0 hy0
   go_wp2
   go_quiet (fail)
   go_wp2
   go_roundw
   case rel => exact ⟨k + 1, by omega, by go_num, he.drewN _⟩
   case measure => simp [intOf]; omega
  ·
   go_wp2
   go_ret
   exact ⟨rfl, he⟩

set_option maxHeartbeats 800000 in
theorem markInt64S_c (w : World) (B : Nat) (v : Value) (xs : List Int) (L : Nat) (hL : xs.length = L) (q : Int) (h : OwnI B 2 1 w v xs) (h0 : 0 ≤ q) (h1 : q + (L : Nat) ≤ 4611686018427387904) :
  Calls Try.prog 72 #[v, .int .i64 q] w (RetM w (feet [v]) (.int .i64 (q + (L : Nat))) fun w' => OwnI B 2 1 w' v (run q (L))) := by
 obtain ⟨a, len, ca, rfl, hl, hca, hm, hop⟩ := Own.open_ h
 rw [List.length_map] at hl
 obtain rfl : L = len := by omega
 unfold maxLen at hm
 rcases hop with h00 | ⟨g, cur0, rfl, hB, hb0, hs0, -⟩
 ·
  subst h00
  have hfin : OwnI B 2 1 w (.slice a 0 ca) (run q (0)) := by
   refine Own.empty h ?_ _ ?_
   ·
    exact List.eq_nil_of_length_eq_zero (by simpa using hL)
   ·
    simp [run]
  have HF := Lib.hid hfin
  clear hfin h hL hl
  have hq : q + ((0 : Nat) : Int) = q := by simp
  rw [hq]
  clear hq
  go_enter Try.func72, Try.ntmps72
  go_wp2
  go_loopw [1, 5] (fun kk i wr => kk = .int .i64 q ∧ i = .int .i64 0 ∧ wr = w) (fun _ _ _ => 0)
  case atStart => exact ⟨rfl, rfl, rfl⟩
  case round =>
   obtain ⟨rfl, rfl, rfl⟩ := hrel
   go_wp2
   go_ret
   exact ⟨rfl, Upd.refl _ _, HF.out⟩
 ·
  have HS := Lib.hid hs0
  have HC := Lib.hid (show L ≤ ca by have := Nat.mul_le_mul_right 1 hca; omega)
  clear hs0 hL hl h
  go_enter Try.func72, Try.ntmps72
  go_wp2
  go_loopw [1, 5] (fun kk i wr => ∃ k : Nat, k ≤ L ∧ i = .int .i64 k ∧ (∃ q' : Int, q' = q + (k : Nat) ∧ kk = .int .i64 q') ∧ Upd w wr [g] ∧ ∃ cur, Blk wr g 2 cur ∧ cur.size = ca ∧ Pre cur (k) ((run q (L)).map (.int .i64))) (fun _ i _ => L - (intOf i).toNat)
  case atStart => exact ⟨0, Nat.zero_le _, rfl, ⟨q, by simp, rfl⟩, Upd.refl _ _, cur0, hb0, by simpa using HS.out, by simpa using Pre.zero _ _⟩
  case round =>
   obtain ⟨k, hk, rfl, ⟨q', hq', rfl⟩, he, cur, hblk, hsz, hpre⟩ := hrel
   clear HS
   have HS := Lib.hid hsz
   have HQ := Lib.hid hq'
   by_cases hlt : k < L
   ·
    have hq1 : 0 ≤ q' ∧ q' + 1 ≤ 4611686018427387904 := by have := mul_lt_of hlt 1; omega
    obtain ⟨hq1, hq2⟩ := hq1
    clear hsz hq'
    obtain ⟨z0, g0⟩ : ∃ z, wr.cell? ⟨g, k, none⟩ = some z := ⟨_, by rw [hblk.cell]; exact Array.getElem?_eq_getElem (by have := HS.out; have := HC.out; omega)⟩
    have f0 := hblk.frozen (k)
    go_wp2
    go_roundw
    case rel => exact ⟨k + 1, by omega, by go_num, ⟨_, by have := HQ.out; omega, rfl⟩, (he.setCell (by simp) _), _, (hblk.set_ _ _), by simp; exact HS.out, ((hpre.set (run_cell' (by have := mul_lt_of hlt 1; omega) (by have := HQ.out; omega)) (by have := HS.out; have := mul_lt_of hlt 1; have := HC.out; omega))).cast (by omega)⟩
    case measure => simp [intOf]; omega
   ·
    obtain rfl : k = L := by omega
    clear hsz hq'
    go_wp2
    go_ret
    refine ⟨congrArg (fun z => Ending.returned (.int .i64 z)) HQ.out, he, Own.of_blk hblk hB (by simpa using HS.out) (by simp [length_run]) hca (by unfold maxLen; omega) (hpre.cast (by omega))⟩

set_option maxHeartbeats 800000 in
theorem heldInt64S_c (w : World) (v : Value) (L : Nat) (q : Int) (h : Ints 1 w v (run q (L))) (h0 : 0 ≤ q) (h1 : q + (L : Nat) ≤ 4611686018427387904) :
  Calls Try.prog 73 #[v, .int .i64 q] w (RetV w (.int .i64 (q + (L : Nat)))) := by
 obtain ⟨a, len, ca, rfl, hl, hca, hm, ha⟩ := h.open_
 rw [length_run] at hl
 obtain rfl : L = len := by omega
 have HA := Lib.hid ha
 clear ha hl h
 unfold maxLen at hm
 go_enter Try.func73, Try.ntmps73
 go_wp2
 go_loopw [1, 5] (fun kk i wr => ∃ k : Nat, k ≤ L ∧ i = .int .i64 k ∧ (∃ q' : Int, q' = q + (k : Nat) ∧ kk = .int .i64 q') ∧ Ext w wr) (fun _ i _ => L - (intOf i).toNat)
 case atStart => exact ⟨0, Nat.zero_le _, rfl, ⟨q, by simp, rfl⟩, Ext.refl _⟩
 case round =>
  obtain ⟨k, hk, rfl, ⟨q', hq', rfl⟩, he⟩ := hrel
  by_cases hlt : k < L
  ·
   obtain ⟨b1, o1, rfl, _, c1⟩ := HA.out k hlt
   obtain ⟨x0, hx0, c10⟩ := c1 0 (by omega)
   obtain rfl : q' = x0 := by rw [run_get _ _ _ (by have := mul_lt_of hlt 1; omega)] at hx0; have := Option.some.inj hx0; omega
   have d0 := he.cell c10
   have hq1 : 0 ≤ q' ∧ q' + 1 ≤ 4611686018427387904 := by have := mul_lt_of hlt 1; omega
   obtain ⟨hq1, hq2⟩ := hq1
   have HQ := Lib.hid hq'
   simp only [Nat.add_zero, Nat.mul_one] at d0
   clear c1 c10 hx0 hq'
   go_wp2
   repeat (go_quiet (fail); go_wp2)
   go_roundw
   case rel => exact ⟨k + 1, by omega, by go_num, ⟨_, by have := HQ.out; omega, rfl⟩, by (first | exact extT | omega)⟩
   case measure => simp [intOf]; omega
  ·
   obtain rfl : k = L := by omega
   have HQ := Lib.hid hq'
   clear hq'
   go_wp2
   go_ret
   exact ⟨congrArg (fun z => Ending.returned (.int .i64 z)) HQ.out, he⟩

set_option maxHeartbeats 800000 in
theorem toDue_c (w : World) (x0 x1 : Int) :
  Calls Try.prog 155 #[.agg #[.int .i64 x0, .int .i64 x1]] w (RetV w (.agg #[.int .i64 x0, .int .i64 x1])) := by
 go_enter Try.func155, Try.ntmps155
 go_wp2
 refine bodyPost_ret (v := .agg #[.int .i64 x0, .int .i64 x1]) (by simp [results, Try.results155, go_sem]) rfl ⟨rfl, ?_⟩
 (first | exact extT | omega)

set_option maxHeartbeats 800000 in
theorem toDueS_c (w : World) (v : Value) (xs : List Int) (L : Nat) (hL : xs.length = L * 2) (h : Ints 2 w v xs) (hs : L ≤ 1048576) :
  Calls Try.prog 136 #[v] w (Ret w fun v' w' => OwnI w.heap.size 132 2 w' v' xs) := by
 obtain ⟨a, len, ca, rfl, hl, hca, hm, ha⟩ := h.open_
 obtain rfl : L = len := by omega
 have HA := Lib.hid ha; have HL := Lib.hid hl
 clear ha hl hL
 unfold maxLen at hm
 obtain ⟨i0, hi, hz0, hz1, hz2⟩ := info_parts info_Due
 go_enter Try.func136, Try.ntmps136
 have hmk := fun W => run_make (P := Try.prog) W 30 132 i0 _ Try.underlying30 hi hz0 .i64 .i64 L L (by omega) (by omega) (by rw [hz2]; omega) (by omega)
 simp only [Int.toNat_natCast, hz1] at hmk
 go_wp2
 clear hmk
 go_loopw [4] (fun i wr => ∃ k : Nat, k ≤ L ∧ i = .int .i64 k ∧ Ext w wr ∧ ∃ cur, Blk wr w.heap.size 132 cur ∧ cur.size = L * 2 ∧ Pre cur (k * 2) (xs.map (.int .i64))) (fun i _ => L - (intOf i).toNat)
 case atStart => exact ⟨0, Nat.zero_le _, rfl, (Ext.refl _).alloc _, _, Blk.new _ _ _, by simp [size_madeCells], by simpa using Pre.zero _ _⟩
 case round =>
  obtain ⟨k, hk, rfl, he, cur, hblk, hsz, hpre⟩ := hrel
  by_cases hlt : k < L
  ·
   obtain ⟨b1, o1, rfl, _, c1⟩ := HA.out k hlt
   obtain ⟨x0, hx0, c10⟩ := c1 0 (by omega)
   obtain ⟨x1, hx1, c11⟩ := c1 1 (by omega)
   have d0 := he.cell c10; have d1 := he.cell c11
   simp only [Nat.add_zero] at d0
   clear c1 c10 c11
   have HX0 := Lib.hid hx0; have HX1 := Lib.hid hx1
   have HS := Lib.hid hsz
   clear hx0 hx1 hsz
   go_wp2_with (first | (go_at_call 155; refine (toDue_c _ _ _).mono ?_; rintro e w1 ⟨rfl, hx⟩; have hb1 := hblk.ext hx; obtain ⟨z0, g0⟩ : ∃ z, w1.cell? ⟨w.heap.size, k * 2, none⟩ = some z := ⟨_, by rw [hb1.cell]; exact Array.getElem?_eq_getElem (by have := HS.out; omega)⟩; obtain ⟨z1, g1⟩ : ∃ z, w1.cell? ⟨w.heap.size, k * 2 + 1, none⟩ = some z := ⟨_, by rw [hb1.cell]; exact Array.getElem?_eq_getElem (by have := HS.out; omega)⟩; have f0 := hb1.frozen (k * 2); have f1 := hb1.frozen (k * 2 + 1)))
   go_roundw
   case rel => exact ⟨k + 1, by omega, by go_num, (((he.trans hx).setCell (Nat.le_refl _) _).setCell (Nat.le_refl _) _), _, ((hb1.set_ _ _).set_ _ _), by simp; exact HS.out, ((hpre.set (by simpa using HX0.out) (by have := HS.out; omega)).set (by simpa using HX1.out) (by have := HS.out; simp; omega)).cast (by omega)⟩
   case measure => simp [intOf]; omega
  ·
   obtain rfl : k = L := by omega
   go_wp2
   go_ret
   exact ⟨_, rfl, he, Own.of_blk hblk (Nat.le_refl _) hsz (by simpa using HL.out) (Nat.le_refl _) (by unfold maxLen; omega) hpre⟩

set_option maxHeartbeats 800000 in
theorem szDueS_c (w : World) (v : Value) (xs : List Int) (L : Nat) (hL : xs.length = L * 2) (left : Int) (h : Ints 2 w v xs) (h0 : 0 ≤ left) (h1 : left ≤ 1048576) :
  Calls Try.prog 131 #[v, .int .i64 left] w (Ret w fun v' _ => SzR left L v') := by
 obtain ⟨a, len, ca, rfl, hl, hca, hm, -⟩ := h.open_
 obtain rfl : L = len := by omega
 clear h hl hL
 unfold maxLen at hm
 by_cases hlt : left < L
 ·
  have ht : decide (left - (L : Int) < 0) = true := by simp; omega
  go_enter Try.func131, Try.ntmps131
  go_wp2
  go_ret
  exact ⟨_, rfl, Ext.refl _, .inl ⟨rfl, hlt⟩⟩
 ·
  have ht : decide (left - (L : Int) < 0) = false := by simp; omega
  go_enter Try.func131, Try.ntmps131
  go_wp2
  go_ret
  exact ⟨_, rfl, Ext.refl _, .inr ⟨rfl, by omega⟩⟩

set_option maxHeartbeats 800000 in
theorem eqDue_c (w : World) (x0 x1 : Int) :
  Calls Try.prog 156 #[.agg #[.int .i64 x0, .int .i64 x1], .agg #[.int .i64 x0, .int .i64 x1]] w (RetV w (.bool true)) := by
 go_enter Try.func156, Try.ntmps156
 go_wp2
 repeat (go_quiet (fail); go_wp2)
 go_ret
 exact ⟨rfl, by (first | exact extT | omega)⟩

set_option maxHeartbeats 800000 in
theorem eqDueS_c (w : World) (va vb : Value) (xs : List Int) (ha : Ints 2 w va xs) (hb : Ints 2 w vb xs) :
  Calls Try.prog 139 #[va, vb] w (RetV w (.bool true)) := by
 obtain ⟨a, len, ca, rfl, hl, hca, hm, ha'⟩ := ha.open_
 obtain ⟨b, len', cb, rfl, hl', _, _, hb'⟩ := hb.open_
 obtain rfl : len = len' := by omega
 have HA := Lib.hid ha'; have HB := Lib.hid hb'
 clear ha' hb' hl hl' ha hb
 unfold maxLen at hm
 go_enter Try.func139, Try.ntmps139
 go_wp2
 go_loopw [5] (fun i wr => ∃ k : Nat, k ≤ len ∧ i = .int .i64 k ∧ Ext w wr) (fun i _ => len - (intOf i).toNat)
 case atStart => exact ⟨0, Nat.zero_le _, rfl, Ext.refl _⟩
 case round =>
  obtain ⟨k, hk, rfl, he⟩ := hrel
  by_cases hlt : k < len
  ·
   obtain ⟨b1, o1, rfl, _, c1⟩ := HA.out k hlt
   obtain ⟨b2, o2, rfl, _, c2⟩ := HB.out k hlt
   obtain ⟨x0, hx0, c10⟩ := c1 0 (by omega)
   obtain ⟨x1, hx1, c11⟩ := c1 1 (by omega)
   obtain ⟨y0, hy0, c20⟩ := c2 0 (by omega)
   obtain ⟨y1, hy1, c21⟩ := c2 1 (by omega)
   obtain rfl : x0 = y0 := by rw [hx0] at hy0; exact Option.some.inj hy0
   obtain rfl : x1 = y1 := by rw [hx1] at hy1; exact Option.some.inj hy1
   have d0 := he.cell c10; have e0 := he.cell c20
   have d1 := he.cell c11; have e1 := he.cell c21
   simp only [Nat.add_zero] at d0 e0
   clear c1 c2 c10 c20 hx0 hy0 c11 c21 hx1 hy1
   go_wp2
   go_region_held3 (fun w' => Ext wr w' ∧ w'.cell? ⟨b1, o1 + k * 2, none⟩ = some (.int .i64 x0) ∧ w'.cell? ⟨b1, o1 + k * 2 + 1, none⟩ = some (.int .i64 x1) ∧ w'.cell? ⟨b2, o2 + k * 2, none⟩ = some (.int .i64 x0) ∧ w'.cell? ⟨b2, o2 + k * 2 + 1, none⟩ = some (.int .i64 x1)) (first | exact ⟨Ext.drew (Ext.refl _), d0, d1, e0, e1⟩ | exact held_of (S := fun w' => Ext wr w' ∧ w'.cell? ⟨b1, o1 + k * 2, none⟩ = some (.int .i64 x0) ∧ w'.cell? ⟨b1, o1 + k * 2 + 1, none⟩ = some (.int .i64 x1) ∧ w'.cell? ⟨b2, o2 + k * 2, none⟩ = some (.int .i64 x0) ∧ w'.cell? ⟨b2, o2 + k * 2 + 1, none⟩ = some (.int .i64 x1)) (by assumption) hx (fun a b h x => ⟨h.1.trans x, (h.1.trans x).cell d0, (h.1.trans x).cell d1, (h.1.trans x).cell e0, (h.1.trans x).cell e1⟩)) ((go_at_call 156; refine (eqDue_c _ _ _).mono ?_; rintro e w' ⟨rfl, hx⟩))
   go_wp2
   go_roundw
   case rel => exact ⟨k + 1, by omega, by go_num, he.trans (And.left ‹_›)⟩
   case measure => simp [intOf]; omega
  ·
   go_wp2
   go_ret
   exact ⟨rfl, he⟩

set_option maxHeartbeats 800000 in
theorem markDueS_c (w : World) (B : Nat) (v : Value) (xs : List Int) (L : Nat) (hL : xs.length = L * 2) (q : Int) (h : OwnI B 132 2 w v xs) (h0 : 0 ≤ q) (h1 : q + (L * 2 : Nat) ≤ 4611686018427387904) :
  Calls Try.prog 140 #[v, .int .i64 q] w (RetM w (feet [v]) (.int .i64 (q + (L * 2 : Nat))) fun w' => OwnI B 132 2 w' v (run q (L * 2))) := by
 obtain ⟨a, len, ca, rfl, hl, hca, hm, hop⟩ := Own.open_ h
 rw [List.length_map] at hl
 obtain rfl : L = len := by omega
 unfold maxLen at hm
 rcases hop with h00 | ⟨g, cur0, rfl, hB, hb0, hs0, -⟩
 ·
  subst h00
  have hfin : OwnI B 132 2 w (.slice a 0 ca) (run q (0 * 2)) := by
   refine Own.empty h ?_ _ ?_
   ·
    exact List.eq_nil_of_length_eq_zero (by simpa using hL)
   ·
    simp [run]
  have HF := Lib.hid hfin
  clear hfin h hL hl
  have hq : q + ((0 * 2 : Nat) : Int) = q := by simp
  rw [hq]
  clear hq
  go_enter Try.func140, Try.ntmps140
  go_wp2
  go_loopw [1, 5] (fun kk i wr => kk = .int .i64 q ∧ i = .int .i64 0 ∧ wr = w) (fun _ _ _ => 0)
  case atStart => exact ⟨rfl, rfl, rfl⟩
  case round =>
   obtain ⟨rfl, rfl, rfl⟩ := hrel
   go_wp2
   go_ret
   exact ⟨rfl, Upd.refl _ _, HF.out⟩
 ·
  have HS := Lib.hid hs0
  have HC := Lib.hid (show L * 2 ≤ ca * 2 by have := Nat.mul_le_mul_right 2 hca; omega)
  clear hs0 hL hl h
  go_enter Try.func140, Try.ntmps140
  go_wp2
  go_loopw [1, 5] (fun kk i wr => ∃ k : Nat, k ≤ L ∧ i = .int .i64 k ∧ (∃ q' : Int, q' = q + (k * 2 : Nat) ∧ kk = .int .i64 q') ∧ Upd w wr [g] ∧ ∃ cur, Blk wr g 132 cur ∧ cur.size = ca * 2 ∧ Pre cur (k * 2) ((run q (L * 2)).map (.int .i64))) (fun _ i _ => L - (intOf i).toNat)
  case atStart => exact ⟨0, Nat.zero_le _, rfl, ⟨q, by simp, rfl⟩, Upd.refl _ _, cur0, hb0, HS.out, by simpa using Pre.zero _ _⟩
  case round =>
   obtain ⟨k, hk, rfl, ⟨q', hq', rfl⟩, he, cur, hblk, hsz, hpre⟩ := hrel
   clear HS
   have HS := Lib.hid hsz
   have HQ := Lib.hid hq'
   by_cases hlt : k < L
   ·
    have hq1 : 0 ≤ q' ∧ q' + 2 ≤ 4611686018427387904 := by have := mul_lt_of hlt 2; omega
    obtain ⟨hq1, hq2⟩ := hq1
    clear hsz hq'
    obtain ⟨z0, g0⟩ : ∃ z, wr.cell? ⟨g, k * 2, none⟩ = some z := ⟨_, by rw [hblk.cell]; exact Array.getElem?_eq_getElem (by have := HS.out; have := HC.out; have := mul_lt_of hlt 2; omega)⟩
    have f0 := hblk.frozen (k * 2)
    obtain ⟨z1, g1⟩ : ∃ z, wr.cell? ⟨g, k * 2 + 1, none⟩ = some z := ⟨_, by rw [hblk.cell]; exact Array.getElem?_eq_getElem (by have := HS.out; have := HC.out; have := mul_lt_of hlt 2; omega)⟩
    have f1 := hblk.frozen (k * 2 + 1)
    go_wp2
    go_roundw
    case rel => exact ⟨k + 1, by omega, by go_num, ⟨_, by have := HQ.out; omega, rfl⟩, ((he.setCell (by simp) _).setCell (by simp) _), _, ((hblk.set_ _ _).set_ _ _), by simp; exact HS.out, (((hpre.set (run_cell' (by have := mul_lt_of hlt 2; omega) (by have := HQ.out; omega)) (by have := HS.out; have := mul_lt_of hlt 2; have := HC.out; omega)).set (run_cell' (by have := mul_lt_of hlt 2; omega) (by have := HQ.out; omega)) (by have := HS.out; have := mul_lt_of hlt 2; have := HC.out; simp; omega))).cast (by omega)⟩
    case measure => simp [intOf]; omega
   ·
    obtain rfl : k = L := by omega
    clear hsz hq'
    go_wp2
    go_ret
    refine ⟨congrArg (fun z => Ending.returned (.int .i64 z)) HQ.out, he, Own.of_blk hblk hB HS.out (by simp [length_run]) hca (by unfold maxLen; omega) hpre⟩

set_option maxHeartbeats 800000 in
theorem toOp_c (w : World) (x0 x1 x2 x3 x4 : Int) :
  Calls Try.prog 57 #[.agg #[.int .i64 x0, .int .i64 x1, .int .i64 x2, .int .i64 x3, .int .i64 x4]] w (RetV w (.agg #[.int .i64 x0, .int .i64 x1, .int .i64 x2, .int .i64 x3, .int .i64 x4])) := by
 go_enter Try.func57, Try.ntmps57
 go_wp2
 refine bodyPost_ret (v := .agg #[.int .i64 x0, .int .i64 x1, .int .i64 x2, .int .i64 x3, .int .i64 x4]) (by simp [results, Try.results57, go_sem]) rfl ⟨rfl, ?_⟩
 (first | exact extT | omega)

set_option maxHeartbeats 800000 in
theorem eqOp_c (w : World) (x0 x1 x2 x3 x4 : Int) :
  Calls Try.prog 62 #[.agg #[.int .i64 x0, .int .i64 x1, .int .i64 x2, .int .i64 x3, .int .i64 x4], .agg #[.int .i64 x0, .int .i64 x1, .int .i64 x2, .int .i64 x3, .int .i64 x4]] w (RetV w (.bool true)) := by
 go_enter Try.func62, Try.ntmps62
 go_wp2
 repeat (go_quiet (fail); go_wp2)
 go_ret
 exact ⟨rfl, by (first | exact extT | omega)⟩





end Go.Proofs.Ythihnangjghloaa

-- HelpC: contracts of the statements' helper functions on rows.
namespace Go.Proofs.Ythihnangjghloaa
open Go.RowKit Go.G8

theorem info_Msg : (Try.prog.info? 118).map (fun i => (i.zero, i.size, i.bytes)) = some (some (.agg #[.int .i64 0, .int .i64 0, .slice none 0 0]), 3, 40) := by kernel_rfl






set_option maxHeartbeats 800000 in
theorem eqMsg_c (w : World) (c0 : Int) (c1 : Int) (s2 : Value) (t2 : Value) (d2 : List Int) (h2 : Ints 1 w s2 d2) (k2 : Ints 1 w t2 d2) :
  Calls Try.prog 71 #[.agg #[.int .i64 c0, .int .i64 c1, s2], .agg #[.int .i64 c0, .int .i64 c1, t2]] w (RetV w (.bool true)) := by
 go_enter Try.func71, Try.ntmps71
 go_wp2_with (first | (go_at_call 112; refine (eqInt64S_c _ s2 t2 d2 (h2.ext (by (first | exact extT | omega))) (k2.ext (by (first | exact extT | omega)))).mono ?_; rintro e w1 ⟨rfl, hx1⟩; have hz1 := hx1.size; obtain ⟨hc1, hf1⟩ := hx1.cells; (repeat (first | simp only [World.size_alloc] at hz1 hc1 hf1 | simp only [World.size_setCell] at hz1 hc1 hf1)); have hy1_0 : w.heap.size < w1.heap.size := (by omega); have hy1_1 : w.heap.size + 1 < w1.heap.size := (by omega)))
 go_ret
 refine ⟨rfl, ?_⟩
 (first | exact extT | omega)

end Go.Proofs.Ythihnangjghloaa

namespace Go.Proofs.Ythihnangjghloaa
open Go.RowKit Go.G8

set_option maxHeartbeats 400000 in
theorem l1In_c (w : World) (x lo hi : Int) : Calls Try.prog 96 #[.int .i64 x, .int .i64 lo, .int .i64 hi] w fun e w' => e = .returned (.bool (inb x lo hi)) ∧ w = w' := by
 by_cases h1 : lo ≤ x
 ·
  by_cases h2 : x ≤ hi
  ·
   rw [inb_of h1 h2]
   go_enter Try.func96, Try.ntmps96
   go_wp2
   go_ret
   exact ⟨rfl, rfl⟩
  ·
   rw [inb_hi (by omega)]
   go_enter Try.func96, Try.ntmps96
   go_wp2
   go_ret
   exact ⟨rfl, rfl⟩
 ·
  rw [inb_lo (by omega)]
  go_enter Try.func96, Try.ntmps96
  go_wp2
  go_ret
  exact ⟨rfl, rfl⟩
set_option maxHeartbeats 400000 in
theorem between_c (w : World) (x lo hi : Int) : Calls Try.prog 92 #[.int .i64 x, .int .i64 lo, .int .i64 hi] w fun e w' => e = .returned (.bool (inb x lo hi)) ∧ w = w' := by
 by_cases h1 : lo ≤ x
 ·
  by_cases h2 : x ≤ hi
  ·
   rw [inb_of h1 h2]
   go_enter Try.func92, Try.ntmps92
   go_wp2
   go_ret
   exact ⟨rfl, rfl⟩
  ·
   rw [inb_hi (by omega)]
   go_enter Try.func92, Try.ntmps92
   go_wp2
   go_ret
   exact ⟨rfl, rfl⟩
 ·
  rw [inb_lo (by omega)]
  go_enter Try.func92, Try.ntmps92
  go_wp2
  go_ret
  exact ⟨rfl, rfl⟩
set_option maxHeartbeats 400000 in
theorem sTimeOk_c (w : World) (x : Int) : Calls Try.prog 117 #[.int .i64 x] w fun e w' => e = .returned (.bool (timeOk x)) ∧ w = w' := by
 go_enter Try.func117, Try.ntmps117
 go_wp2_with (first | (go_at_call 96; refine (l1In_c _ _ _ _).mono ?_; rintro e w1 ⟨rfl, rfl⟩))
 go_ret
 exact ⟨rfl, rfl⟩
set_option maxHeartbeats 400000 in
theorem l11DueLess_c (w : World) (a b : DDue) : Calls Try.prog 150 #[.agg #[.int .i64 a.Id, .int .i64 a.Due], .agg #[.int .i64 b.Id, .int .i64 b.Due]] w (RetV w (.bool (dueLess a b))) := by
 by_cases h1 : a.Due < b.Due
 ·
  rw [dueLess_lt h1]
  go_enter Try.func150, Try.ntmps150
  go_wp2
  go_ret
  exact ⟨rfl, by repeat (with_reducible (first | exact Ext.refl _ | refine Ext.alloc ?_ _))⟩
 ·
  by_cases h2 : a.Due = b.Due
  ·
   have h2' : (a.Due == b.Due) = true := by simpa using h2
   by_cases h3 : a.Id < b.Id
   ·
    rw [dueLess_id h2 h3]
    clear h2
    go_enter Try.func150, Try.ntmps150
    go_wp2
    go_ret
    exact ⟨rfl, by repeat (with_reducible (first | exact Ext.refl _ | refine Ext.alloc ?_ _))⟩
   ·
    rw [dueLess_ge h2 h3]
    clear h2
    go_enter Try.func150, Try.ntmps150
    go_wp2
    go_ret
    exact ⟨rfl, by repeat (with_reducible (first | exact Ext.refl _ | refine Ext.alloc ?_ _))⟩
  ·
   have h2' : (a.Due == b.Due) = false := by simpa using h2
   rw [dueLess_no h1 h2]
   clear h2
   go_enter Try.func150, Try.ntmps150
   go_wp2
   go_ret
   exact ⟨rfl, by repeat (with_reducible (first | exact Ext.refl _ | refine Ext.alloc ?_ _))⟩
set_option maxHeartbeats 400000 in
theorem dueLess_c (w : World) (a b : DDue) : Calls Try.prog 94 #[.agg #[.int .i64 a.Id, .int .i64 a.Due], .agg #[.int .i64 b.Id, .int .i64 b.Due]] w (RetV w (.bool (dueLess a b))) := by
 by_cases h1 : a.Due < b.Due
 ·
  rw [dueLess_lt h1]
  go_enter Try.func94, Try.ntmps94
  go_wp2
  go_ret
  exact ⟨rfl, by repeat (with_reducible (first | exact Ext.refl _ | refine Ext.alloc ?_ _))⟩
 ·
  by_cases h2 : a.Due = b.Due
  ·
   have h2' : (a.Due == b.Due) = true := by simpa using h2
   by_cases h3 : a.Id < b.Id
   ·
    rw [dueLess_id h2 h3]
    clear h2
    go_enter Try.func94, Try.ntmps94
    go_wp2
    go_ret
    exact ⟨rfl, by repeat (with_reducible (first | exact Ext.refl _ | refine Ext.alloc ?_ _))⟩
   ·
    rw [dueLess_ge h2 h3]
    clear h2
    go_enter Try.func94, Try.ntmps94
    go_wp2
    go_ret
    exact ⟨rfl, by repeat (with_reducible (first | exact Ext.refl _ | refine Ext.alloc ?_ _))⟩
  ·
   have h2' : (a.Due == b.Due) = false := by simpa using h2
   rw [dueLess_no h1 h2]
   clear h2
   go_enter Try.func94, Try.ntmps94
   go_wp2
   go_ret
   exact ⟨rfl, by repeat (with_reducible (first | exact Ext.refl _ | refine Ext.alloc ?_ _))⟩
set_option maxHeartbeats 400000 in
theorem l7Id_c (w : World) (x : Int) : Calls Try.prog 134 #[.int .i64 x] w fun e w' => e = .returned (.bool (idOk x)) ∧ w = w' := by
 go_enter Try.func134, Try.ntmps134
 go_wp2_with (first | (go_at_call 96; refine (l1In_c _ _ _ _).mono ?_; rintro e w1 ⟨rfl, rfl⟩))
 go_ret
 exact ⟨rfl, rfl⟩
set_option maxHeartbeats 400000 in
theorem timeOk_c (w : World) (x : Int) : Calls Try.prog 78 #[.int .i64 x] w fun e w' => e = .returned (.bool (timeOk x)) ∧ w = w' := by
 go_enter Try.func78, Try.ntmps78
 go_wp2_with (first | (go_at_call 92; refine (between_c _ _ _ _).mono ?_; rintro e w1 ⟨rfl, rfl⟩))
 go_ret
 exact ⟨rfl, rfl⟩
set_option maxHeartbeats 400000 in
theorem idOk_c (w : World) (x : Int) : Calls Try.prog 93 #[.int .i64 x] w fun e w' => e = .returned (.bool (idOk x)) ∧ w = w' := by
 go_enter Try.func93, Try.ntmps93
 go_wp2_with (first | (go_at_call 92; refine (between_c _ _ _ _).mono ?_; rintro e w1 ⟨rfl, rfl⟩))
 go_ret
 exact ⟨rfl, rfl⟩
end Go.Proofs.Ythihnangjghloaa

-- Rows and disks: right or not.
namespace Go.Proofs.Ythihnangjghloaa
open Go.RowKit Go.G8

end Go.Proofs.Ythihnangjghloaa
namespace Go.G8
open Go.RowKit
def nestInt64S (l : List (List Int)) : List NRow := l.map (fun r => ([], r))
def nestWrite (l : List DWrite) : List NRow := l.map (fun d => ([d.At], d.Row))
/-- A slice of integers, opened for a walk. -/
theorem Ints.one {w : World} {v : Value} {l : List Int} (h : Ints 1 w v l) : ∃ a cap, v = .slice a l.length cap ∧ l.length ≤ cap ∧ cap ≤ maxLen ∧
  ∀ i, i < l.length → ∃ x b off, l[i]? = some x ∧ a = some ⟨b, off, none⟩ ∧ b < w.heap.size ∧ w.cell? ⟨b, off + i, none⟩ = some (.int .i64 x) := by
 obtain ⟨a, len, cap, rfl, hl, h1, h2, h3⟩ := h.open_
 obtain rfl : l.length = len := by omega
 refine ⟨a, cap, rfl, h1, h2, fun i hi => ?_⟩
 obtain ⟨b, off, ha, hb, hc⟩ := h3 i hi
 obtain ⟨x, hx, hcell⟩ := hc 0 (by omega)
 simp only [Nat.mul_one, Nat.add_zero] at hx hcell
 exact ⟨x, b, off, hx, ha, hb, hcell⟩
end Go.G8
namespace Go.Proofs.Ythihnangjghloaa
open Go.RowKit Go.G8
theorem nest_at {l : List (List Int)} {k : Nat} {r : NRow} (h : (nestInt64S l)[k]? = some r) : l[k]? = some r.2 := by
 simp only [nestInt64S, List.getElem?_map, Option.map_eq_some_iff] at h
 obtain ⟨x, hx, rfl⟩ := h
 exact hx
theorem nestW_at {l : List DWrite} {k : Nat} {r : NRow} (h : (nestWrite l)[k]? = some r) : ∃ d, l[k]? = some d ∧ r = ([d.At], d.Row) := by
 simp only [nestWrite, List.getElem?_map, Option.map_eq_some_iff] at h
 obtain ⟨x, hx, rfl⟩ := h
 exact ⟨x, hx, rfl⟩
/-- The rows of a disk, opened for a walk. -/
theorem Nest.rows {w : World} {v : Value} {l : List (List Int)} (h : Nest 0 w v (nestInt64S l)) : ∃ a cap, v = .slice a l.length cap ∧ l.length ≤ cap ∧ cap ≤ maxLen ∧
  ∀ i, i < l.length → ∃ r b off sa sn sc, l[i]? = some r ∧ a = some ⟨b, off, none⟩ ∧ b < w.heap.size ∧ w.cell? ⟨b, off + i, none⟩ = some (.slice sa sn sc) ∧ Ints 1 w (.slice sa sn sc) r := by
 obtain ⟨a, cap, rfl, h1, h2, h3⟩ := h.open_
 have hl : (nestInt64S l).length = l.length := by simp [nestInt64S]
 rw [hl] at h1 h3 ⊢
 refine ⟨a, cap, rfl, h1, h2, fun i hi => ?_⟩
 obtain ⟨r, b, off, s, hr, ha, hb, _, hc, hin⟩ := h3 i hi
 obtain ⟨sa, sn, sc, rfl⟩ := hin.shape
 exact ⟨r.2, b, off, sa, sn, sc, nest_at hr, ha, hb, by simpa using hc, hin⟩
theorem Nest.writes {w : World} {v : Value} {l : List DWrite} (h : Nest 1 w v (nestWrite l)) : ∃ a cap, v = .slice a l.length cap ∧ l.length ≤ cap ∧ cap ≤ maxLen ∧
  ∀ i, i < l.length → ∃ d b off sa sn sc, l[i]? = some d ∧ a = some ⟨b, off, none⟩ ∧ b < w.heap.size ∧ w.cell? ⟨b, off + i * 2, none⟩ = some (.int .i64 d.At) ∧ w.cell? ⟨b, off + i * 2 + 1, none⟩ = some (.slice sa sn sc) ∧ Ints 1 w (.slice sa sn sc) d.Row := by
 obtain ⟨a, cap, rfl, h1, h2, h3⟩ := h.open_
 have hl : (nestWrite l).length = l.length := by simp [nestWrite]
 rw [hl] at h1 h3 ⊢
 refine ⟨a, cap, rfl, h1, h2, fun i hi => ?_⟩
 obtain ⟨r, b, off, s, hr, ha, hb, hci, hc, hin⟩ := h3 i hi
 obtain ⟨d, hd, rfl⟩ := nestW_at hr
 obtain ⟨sa, sn, sc, rfl⟩ := hin.shape
 have h0 := hci 0 d.At rfl
 simp only [Nat.add_zero, Nat.reduceAdd] at h0 hc
 exact ⟨d, b, off, sa, sn, sc, hd, ha, hb, h0, hc, hin⟩

end Go.Proofs.Ythihnangjghloaa

-- New disks.
namespace Go.Proofs.Ythihnangjghloaa
open Go.RowKit Go.G8

end Go.Proofs.Ythihnangjghloaa
namespace Go.G8
open Go.RowKit
theorem ncells_nil (n : Nat) : ncells (nestInt64S (List.replicate n [])) (List.replicate n (.slice none 0 0)) = List.replicate n (.slice none 0 0) := by
 induction n with
 | zero => rfl
 | succ n ih =>
  simp only [List.replicate_succ, nestInt64S, ncells, List.map_cons, List.zip_cons_cons, List.flatMap_cons] at ih ⊢
  rw [ih]
  simp [ncell]
theorem OwnNs.nil (B : Nat) (e e1 : TypeId) (n : Nat) (w : World) : OwnNs B e e1 n w (.slice none 0 0) [] [] :=
 ⟨fun r h => by simp at h, rfl, ⟨0, by simp [ncells], .inl ⟨rfl, rfl⟩⟩, ⟨fun i s r h => by simp at h, fun i j s t k _ h => by simp at h, fun i s k h => by simp at h⟩⟩
/-- What 'make([][]int64, n)' lays. -/
theorem OwnNs.made (w : World) (e e1 : TypeId) (n : Nat) (hn : n ≤ 40) : OwnNs w.heap.size e e1 0 (w.alloc (.cells (madeCells #[.slice none 0 0] n) e)) (.slice (some ⟨w.heap.size, 0, none⟩) n n) (nestInt64S (List.replicate n [])) (List.replicate n (.slice none 0 0)) := by
 have hrep : ∀ (i : Nat) (s : Value), (List.replicate n (Value.slice none 0 0))[i]? = some s → s = .slice none 0 0 := by
  intro i s h
  exact List.eq_of_mem_replicate (List.mem_of_getElem? h)
 have hft : ∀ k, k ∈ feet [Value.slice none 0 0] → False := by simp [feet, Value.ownBlock]
 refine ⟨fun r h => by simp [nestInt64S] at h; simp [h], by simp [nestInt64S], Own.of_blk (cap := n) (Blk.new _ _ _) (Nat.le_refl _) (by simp [size_madeCells]) (by rw [ncells_nil]; simp) (Nat.le_refl _) (by unfold maxLen; omega) ?_, ⟨fun i s r h1 h2 => ?_, fun i j s t k _ h1 h2 h3 => ?_, fun i s k h1 h3 => ?_⟩⟩
 ·
  rw [ncells_nil]
  intro j hj
  have hj' : j < n := by omega
  simp [madeCells, hj', Nat.mod_one]
 ·
  rw [hrep i s h1]
  have : r.2 = [] := by
   have := List.mem_of_getElem? h2
   simp [nestInt64S] at this
   simp [this]
  rw [this]
  exact OwnI.nil _ _ _ _
 ·
  rw [hrep i s h1] at h3; exact (hft k h3).elim
 ·
  rw [hrep i s h1] at h3; exact (hft k h3).elim
end Go.G8
namespace Go.Proofs.Ythihnangjghloaa
open Go.RowKit Go.G8
end Go.Proofs.Ythihnangjghloaa

-- HelpD: contracts of the statements' helper functions on disks.
namespace Go.Proofs.Ythihnangjghloaa
open Go.RowKit Go.G8




end Go.Proofs.Ythihnangjghloaa

-- HelpE: contracts of the statements' helper functions on disks: marks.
namespace Go.Proofs.Ythihnangjghloaa
open Go.RowKit Go.G8


end Go.Proofs.Ythihnangjghloaa

-- HelpF: contracts of the statements' helper functions on states and stores.
namespace Go.Proofs.Ythihnangjghloaa
open Go.RowKit Go.G8

end Go.Proofs.Ythihnangjghloaa

-- HelpG: contracts of the statements' helper functions on snapshots.
set_option linter.unusedSimpArgs false
set_option linter.unusedVariables false
namespace Go.Proofs.Ythihnangjghloaa
open Go.RowKit Go.G8













end Go.Proofs.Ythihnangjghloaa
