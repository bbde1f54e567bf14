/- HelpF: contracts of the statements' helper functions on states and stores. -/
import Derived.Test.YtemhbbpbmgpcaaaHelpE
namespace Go.Proofs.Ytemhbbpbmgpcaaa
open Go.RowKit Go.G8

theorem info_Pair : (Try.prog.info? 106).map (fun i => (i.zero, i.size, i.bytes)) = some (some (.agg #[.int .i64 0, .int .i64 0]), 2, 16) := by kernel_rfl

set_option maxHeartbeats 800000 in
theorem eqPair_c (w : World) (x0 x1 : Int) :
    Calls Try.prog 90 #[.agg #[.int .i64 x0, .int .i64 x1], .agg #[.int .i64 x0, .int .i64 x1]] w (RetV w (.bool true)) := by
  go_enter Try.func90, Try.ntmps90
  go_wp2
  repeat (go_quiet (fail); go_wp2)
  go_ret
  exact ⟨rfl, by repeat' (first | (with_reducible exact Ext.refl _) | (with_reducible assumption) | (with_reducible refine Ext.drewN ?_ _) | (with_reducible refine Ext.drew ?_) | (with_reducible refine Ext.alloc ?_ _) | (with_reducible refine Ext.setCell ?_ ?_ _) | (with_reducible exact Nat.le_refl _) | (with_reducible refine Ext.trans ?_ (by assumption)) | omega)⟩

set_option maxHeartbeats 800000 in
theorem eqPairS_c (w : World) (va vb : Value) (xs : List Int) (ha : Ints 2 w va xs) (hb : Ints 2 w vb xs) :
    Calls Try.prog 63 #[va, vb] w (RetV w (.bool true)) := by
  obtain ⟨a, len, ca, rfl, hl, hca, hm, ha'⟩ := ha.open_
  obtain ⟨b, len', cb, rfl, hl', _, _, hb'⟩ := hb.open_
  obtain rfl : len = len' := by omega
  have HA := Lib.hid ha'; have HB := Lib.hid hb'
  clear ha' hb' hl hl' ha hb
  unfold maxLen at hm
  go_enter Try.func63, Try.ntmps63
  go_wp2
  go_loopw [5] (fun i wr => ∃ k : Nat, k ≤ len ∧ i = .int .i64 k ∧ Ext w wr) (fun i _ => len - (intOf i).toNat)
  case atStart => exact ⟨0, Nat.zero_le _, rfl, Ext.refl _⟩
  case round =>
    obtain ⟨k, hk, rfl, he⟩ := hrel
    by_cases hlt : k < len
    · obtain ⟨b1, o1, rfl, _, c1⟩ := HA.out k hlt
      obtain ⟨b2, o2, rfl, _, c2⟩ := HB.out k hlt
      obtain ⟨x0, hx0, c10⟩ := c1 0 (by omega)
      obtain ⟨x1, hx1, c11⟩ := c1 1 (by omega)
      obtain ⟨y0, hy0, c20⟩ := c2 0 (by omega)
      obtain ⟨y1, hy1, c21⟩ := c2 1 (by omega)
      obtain rfl : x0 = y0 := by rw [hx0] at hy0; exact Option.some.inj hy0
      obtain rfl : x1 = y1 := by rw [hx1] at hy1; exact Option.some.inj hy1
      have d0 := he.cell c10; have e0 := he.cell c20
      have d1 := he.cell c11; have e1 := he.cell c21
      simp only [Nat.add_zero] at d0 e0
      clear c1 c2 c10 c20 hx0 hy0 c11 c21 hx1 hy1
      go_wp2
      go_region_held3 (fun w' => Ext wr w' ∧ w'.cell? ⟨b1, o1 + k * 2, none⟩ = some (.int .i64 x0) ∧ w'.cell? ⟨b1, o1 + k * 2 + 1, none⟩ = some (.int .i64 x1) ∧ w'.cell? ⟨b2, o2 + k * 2, none⟩ = some (.int .i64 x0) ∧ w'.cell? ⟨b2, o2 + k * 2 + 1, none⟩ = some (.int .i64 x1)) (first | exact ⟨Ext.drew (Ext.refl _), d0, d1, e0, e1⟩ | exact held_of (S := fun w' => Ext wr w' ∧ w'.cell? ⟨b1, o1 + k * 2, none⟩ = some (.int .i64 x0) ∧ w'.cell? ⟨b1, o1 + k * 2 + 1, none⟩ = some (.int .i64 x1) ∧ w'.cell? ⟨b2, o2 + k * 2, none⟩ = some (.int .i64 x0) ∧ w'.cell? ⟨b2, o2 + k * 2 + 1, none⟩ = some (.int .i64 x1)) (by assumption) hx (fun a b h x => ⟨h.1.trans x, (h.1.trans x).cell d0, (h.1.trans x).cell d1, (h.1.trans x).cell e0, (h.1.trans x).cell e1⟩)) ((go_at_call 90; refine (eqPair_c _ _ _).mono ?_; rintro e w' ⟨rfl, hx⟩))
      go_wp2
      go_roundw
      case rel => exact ⟨k + 1, by omega, by go_num, he.trans (And.left ‹_›)⟩
      case measure => simp [intOf]; omega
    · go_wp2
      go_ret
      exact ⟨rfl, he⟩

set_option maxHeartbeats 800000 in
theorem markPairS_c (w : World) (B : Nat) (v : Value) (xs : List Int) (L : Nat) (hL : xs.length = L * 2) (q : Int) (h : OwnI B 106 2 w v xs) (h0 : 0 ≤ q) (h1 : q + (L * 2 : Nat) ≤ 4611686018427387904) :
    Calls Try.prog 66 #[v, .int .i64 q] w (RetM w (feet [v]) (.int .i64 (q + (L * 2 : Nat))) fun w' => OwnI B 106 2 w' v (run q (L * 2))) := by
  obtain ⟨a, len, ca, rfl, hl, hca, hm, hop⟩ := Own.open_ h
  rw [List.length_map] at hl
  obtain rfl : L = len := by omega
  unfold maxLen at hm
  rcases hop with h00 | ⟨g, cur0, rfl, hB, hb0, hs0, -⟩
  · subst h00
    have hfin : OwnI B 106 2 w (.slice a 0 ca) (run q (0 * 2)) := by
      refine Own.empty h ?_ _ ?_
      · exact List.eq_nil_of_length_eq_zero (by simpa using hL)
      · simp [run]
    have HF := Lib.hid hfin
    clear hfin h hL hl
    have hq : q + ((0 * 2 : Nat) : Int) = q := by simp
    rw [hq]
    clear hq
    go_enter Try.func66, Try.ntmps66
    go_wp2
    go_loopw [1, 5] (fun kk i wr => kk = .int .i64 q ∧ i = .int .i64 0 ∧ wr = w) (fun _ _ _ => 0)
    case atStart => exact ⟨rfl, rfl, rfl⟩
    case round =>
      obtain ⟨rfl, rfl, rfl⟩ := hrel
      go_wp2
      go_ret
      exact ⟨rfl, Upd.refl _ _, HF.out⟩
  · have HS := Lib.hid hs0
    have HC := Lib.hid (show L * 2 ≤ ca * 2 by have := Nat.mul_le_mul_right 2 hca; omega)
    clear hs0 hL hl h
    go_enter Try.func66, Try.ntmps66
    go_wp2
    go_loopw [1, 5] (fun kk i wr => ∃ k : Nat, k ≤ L ∧ i = .int .i64 k ∧ (∃ q' : Int, q' = q + (k * 2 : Nat) ∧ kk = .int .i64 q') ∧ Upd w wr [g] ∧ ∃ cur, Blk wr g 106 cur ∧ cur.size = ca * 2 ∧ Pre cur (k * 2) ((run q (L * 2)).map (.int .i64))) (fun _ i _ => L - (intOf i).toNat)
    case atStart => exact ⟨0, Nat.zero_le _, rfl, ⟨q, by simp, rfl⟩, Upd.refl _ _, cur0, hb0, HS.out, by simpa using Pre.zero _ _⟩
    case round =>
      obtain ⟨k, hk, rfl, ⟨q', hq', rfl⟩, he, cur, hblk, hsz, hpre⟩ := hrel
      clear HS
      have HS := Lib.hid hsz
      have HQ := Lib.hid hq'
      by_cases hlt : k < L
      · have hq1 : 0 ≤ q' ∧ q' + 2 ≤ 4611686018427387904 := by have := mul_lt_of hlt 2; omega
        obtain ⟨hq1, hq2⟩ := hq1
        clear hsz hq'
        obtain ⟨z0, g0⟩ : ∃ z, wr.cell? ⟨g, k * 2, none⟩ = some z := ⟨_, by rw [hblk.cell]; exact Array.getElem?_eq_getElem (by have := HS.out; have := HC.out; have := mul_lt_of hlt 2; omega)⟩
        have f0 := hblk.frozen (k * 2)
        obtain ⟨z1, g1⟩ : ∃ z, wr.cell? ⟨g, k * 2 + 1, none⟩ = some z := ⟨_, by rw [hblk.cell]; exact Array.getElem?_eq_getElem (by have := HS.out; have := HC.out; have := mul_lt_of hlt 2; omega)⟩
        have f1 := hblk.frozen (k * 2 + 1)
        go_wp2
        go_roundw
        case rel => exact ⟨k + 1, by omega, by go_num, ⟨_, by have := HQ.out; omega, rfl⟩, ((he.setCell (by simp) _).setCell (by simp) _), _, ((hblk.set_ _ _).set_ _ _), by simp; exact HS.out, (((hpre.set (run_cell' (by have := mul_lt_of hlt 2; omega) (by have := HQ.out; omega)) (by have := HS.out; have := mul_lt_of hlt 2; have := HC.out; omega)).set (run_cell' (by have := mul_lt_of hlt 2; omega) (by have := HQ.out; omega)) (by have := HS.out; have := mul_lt_of hlt 2; have := HC.out; simp; omega))).cast (by omega)⟩
        case measure => simp [intOf]; omega
      · obtain rfl : k = L := by omega
        clear hsz hq'
        go_wp2
        go_ret
        refine ⟨congrArg (fun z => Ending.returned (.int .i64 z)) HQ.out, he, Own.of_blk hblk hB HS.out (by simp [length_run]) hca (by unfold maxLen; omega) hpre⟩

set_option maxHeartbeats 800000 in
theorem heldPairS_c (w : World) (v : Value) (L : Nat) (q : Int) (h : Ints 2 w v (run q (L * 2))) (h0 : 0 ≤ q) (h1 : q + (L * 2 : Nat) ≤ 4611686018427387904) :
    Calls Try.prog 78 #[v, .int .i64 q] w (RetV w (.int .i64 (q + (L * 2 : Nat)))) := by
  obtain ⟨a, len, ca, rfl, hl, hca, hm, ha⟩ := h.open_
  rw [length_run] at hl
  obtain rfl : L = len := by omega
  have HA := Lib.hid ha
  clear ha hl h
  unfold maxLen at hm
  go_enter Try.func78, Try.ntmps78
  go_wp2
  go_loopw [1, 5] (fun kk i wr => ∃ k : Nat, k ≤ L ∧ i = .int .i64 k ∧ (∃ q' : Int, q' = q + (k * 2 : Nat) ∧ kk = .int .i64 q') ∧ Ext w wr) (fun _ i _ => L - (intOf i).toNat)
  case atStart => exact ⟨0, Nat.zero_le _, rfl, ⟨q, by simp, rfl⟩, Ext.refl _⟩
  case round =>
    obtain ⟨k, hk, rfl, ⟨q', hq', rfl⟩, he⟩ := hrel
    by_cases hlt : k < L
    · obtain ⟨b1, o1, rfl, _, c1⟩ := HA.out k hlt
      obtain ⟨x0, hx0, c10⟩ := c1 0 (by omega)
      obtain rfl : q' = x0 := by rw [run_get _ _ _ (by have := mul_lt_of hlt 2; omega)] at hx0; have := Option.some.inj hx0; omega
      have d0 := he.cell c10
      obtain ⟨x1, hx1, c11⟩ := c1 1 (by omega)
      obtain rfl : x1 = q' + 1 := by rw [run_get _ _ _ (by have := mul_lt_of hlt 2; omega)] at hx1; have := Option.some.inj hx1; omega
      have d1 := he.cell c11
      have hq1 : 0 ≤ q' ∧ q' + 2 ≤ 4611686018427387904 := by have := mul_lt_of hlt 2; omega
      obtain ⟨hq1, hq2⟩ := hq1
      have HQ := Lib.hid hq'
      simp only [Nat.add_zero] at d0
      clear c1 c10 hx0 c11 hx1 hq'
      go_wp2
      repeat (go_quiet (fail); go_wp2)
      go_roundw
      case rel => exact ⟨k + 1, by omega, by go_num, ⟨_, by have := HQ.out; omega, rfl⟩, by repeat' (first | (with_reducible exact Ext.refl _) | (with_reducible assumption) | (with_reducible refine Ext.drewN ?_ _) | (with_reducible refine Ext.drew ?_) | (with_reducible refine Ext.alloc ?_ _) | (with_reducible refine Ext.setCell ?_ ?_ _) | (with_reducible exact Nat.le_refl _) | (with_reducible refine Ext.trans ?_ (by assumption)) | omega)⟩
      case measure => simp [intOf]; omega
    · obtain rfl : k = L := by omega
      have HQ := Lib.hid hq'
      clear hq'
      go_wp2
      go_ret
      exact ⟨congrArg (fun z => Ending.returned (.int .i64 z)) HQ.out, he⟩

theorem info_Job : (Try.prog.info? 104).map (fun i => (i.zero, i.size, i.bytes)) = some (some (.agg #[.int .i64 0, .int .i64 0, .int .i64 0, .int .i64 0, .int .i64 0]), 5, 40) := by kernel_rfl

set_option maxHeartbeats 800000 in
theorem eqJob_c (w : World) (x0 x1 x2 x3 x4 : Int) :
    Calls Try.prog 91 #[.agg #[.int .i64 x0, .int .i64 x1, .int .i64 x2, .int .i64 x3, .int .i64 x4], .agg #[.int .i64 x0, .int .i64 x1, .int .i64 x2, .int .i64 x3, .int .i64 x4]] w (RetV w (.bool true)) := by
  go_enter Try.func91, Try.ntmps91
  go_wp2
  repeat (go_quiet (fail); go_wp2)
  go_ret
  exact ⟨rfl, by repeat' (first | (with_reducible exact Ext.refl _) | (with_reducible assumption) | (with_reducible refine Ext.drewN ?_ _) | (with_reducible refine Ext.drew ?_) | (with_reducible refine Ext.alloc ?_ _) | (with_reducible refine Ext.setCell ?_ ?_ _) | (with_reducible exact Nat.le_refl _) | (with_reducible refine Ext.trans ?_ (by assumption)) | omega)⟩

set_option maxHeartbeats 800000 in
theorem eqJobS_c (w : World) (va vb : Value) (xs : List Int) (ha : Ints 5 w va xs) (hb : Ints 5 w vb xs) :
    Calls Try.prog 64 #[va, vb] w (RetV w (.bool true)) := by
  obtain ⟨a, len, ca, rfl, hl, hca, hm, ha'⟩ := ha.open_
  obtain ⟨b, len', cb, rfl, hl', _, _, hb'⟩ := hb.open_
  obtain rfl : len = len' := by omega
  have HA := Lib.hid ha'; have HB := Lib.hid hb'
  clear ha' hb' hl hl' ha hb
  unfold maxLen at hm
  go_enter Try.func64, Try.ntmps64
  go_wp2
  go_loopw [5] (fun i wr => ∃ k : Nat, k ≤ len ∧ i = .int .i64 k ∧ Ext w wr) (fun i _ => len - (intOf i).toNat)
  case atStart => exact ⟨0, Nat.zero_le _, rfl, Ext.refl _⟩
  case round =>
    obtain ⟨k, hk, rfl, he⟩ := hrel
    by_cases hlt : k < len
    · obtain ⟨b1, o1, rfl, _, c1⟩ := HA.out k hlt
      obtain ⟨b2, o2, rfl, _, c2⟩ := HB.out k hlt
      obtain ⟨x0, hx0, c10⟩ := c1 0 (by omega)
      obtain ⟨x1, hx1, c11⟩ := c1 1 (by omega)
      obtain ⟨x2, hx2, c12⟩ := c1 2 (by omega)
      obtain ⟨x3, hx3, c13⟩ := c1 3 (by omega)
      obtain ⟨x4, hx4, c14⟩ := c1 4 (by omega)
      obtain ⟨y0, hy0, c20⟩ := c2 0 (by omega)
      obtain ⟨y1, hy1, c21⟩ := c2 1 (by omega)
      obtain ⟨y2, hy2, c22⟩ := c2 2 (by omega)
      obtain ⟨y3, hy3, c23⟩ := c2 3 (by omega)
      obtain ⟨y4, hy4, c24⟩ := c2 4 (by omega)
      obtain rfl : x0 = y0 := by rw [hx0] at hy0; exact Option.some.inj hy0
      obtain rfl : x1 = y1 := by rw [hx1] at hy1; exact Option.some.inj hy1
      obtain rfl : x2 = y2 := by rw [hx2] at hy2; exact Option.some.inj hy2
      obtain rfl : x3 = y3 := by rw [hx3] at hy3; exact Option.some.inj hy3
      obtain rfl : x4 = y4 := by rw [hx4] at hy4; exact Option.some.inj hy4
      have d0 := he.cell c10; have e0 := he.cell c20
      have d1 := he.cell c11; have e1 := he.cell c21
      have d2 := he.cell c12; have e2 := he.cell c22
      have d3 := he.cell c13; have e3 := he.cell c23
      have d4 := he.cell c14; have e4 := he.cell c24
      simp only [Nat.add_zero] at d0 e0
      clear c1 c2 c10 c20 hx0 hy0 c11 c21 hx1 hy1 c12 c22 hx2 hy2 c13 c23 hx3 hy3 c14 c24 hx4 hy4
      go_wp2
      go_region_held3 (fun w' => Ext wr w' ∧ w'.cell? ⟨b1, o1 + k * 5, none⟩ = some (.int .i64 x0) ∧ w'.cell? ⟨b1, o1 + k * 5 + 1, none⟩ = some (.int .i64 x1) ∧ w'.cell? ⟨b1, o1 + k * 5 + 2, none⟩ = some (.int .i64 x2) ∧ w'.cell? ⟨b1, o1 + k * 5 + 3, none⟩ = some (.int .i64 x3) ∧ w'.cell? ⟨b1, o1 + k * 5 + 4, none⟩ = some (.int .i64 x4) ∧ w'.cell? ⟨b2, o2 + k * 5, none⟩ = some (.int .i64 x0) ∧ w'.cell? ⟨b2, o2 + k * 5 + 1, none⟩ = some (.int .i64 x1) ∧ w'.cell? ⟨b2, o2 + k * 5 + 2, none⟩ = some (.int .i64 x2) ∧ w'.cell? ⟨b2, o2 + k * 5 + 3, none⟩ = some (.int .i64 x3) ∧ w'.cell? ⟨b2, o2 + k * 5 + 4, none⟩ = some (.int .i64 x4)) (first | exact ⟨Ext.drew (Ext.refl _), d0, d1, d2, d3, d4, e0, e1, e2, e3, e4⟩ | exact held_of (S := fun w' => Ext wr w' ∧ w'.cell? ⟨b1, o1 + k * 5, none⟩ = some (.int .i64 x0) ∧ w'.cell? ⟨b1, o1 + k * 5 + 1, none⟩ = some (.int .i64 x1) ∧ w'.cell? ⟨b1, o1 + k * 5 + 2, none⟩ = some (.int .i64 x2) ∧ w'.cell? ⟨b1, o1 + k * 5 + 3, none⟩ = some (.int .i64 x3) ∧ w'.cell? ⟨b1, o1 + k * 5 + 4, none⟩ = some (.int .i64 x4) ∧ w'.cell? ⟨b2, o2 + k * 5, none⟩ = some (.int .i64 x0) ∧ w'.cell? ⟨b2, o2 + k * 5 + 1, none⟩ = some (.int .i64 x1) ∧ w'.cell? ⟨b2, o2 + k * 5 + 2, none⟩ = some (.int .i64 x2) ∧ w'.cell? ⟨b2, o2 + k * 5 + 3, none⟩ = some (.int .i64 x3) ∧ w'.cell? ⟨b2, o2 + k * 5 + 4, none⟩ = some (.int .i64 x4)) (by assumption) hx (fun a b h x => ⟨h.1.trans x, (h.1.trans x).cell d0, (h.1.trans x).cell d1, (h.1.trans x).cell d2, (h.1.trans x).cell d3, (h.1.trans x).cell d4, (h.1.trans x).cell e0, (h.1.trans x).cell e1, (h.1.trans x).cell e2, (h.1.trans x).cell e3, (h.1.trans x).cell e4⟩)) ((go_at_call 91; refine (eqJob_c _ _ _ _ _ _).mono ?_; rintro e w' ⟨rfl, hx⟩))
      go_wp2
      go_roundw
      case rel => exact ⟨k + 1, by omega, by go_num, he.trans (And.left ‹_›)⟩
      case measure => simp [intOf]; omega
    · go_wp2
      go_ret
      exact ⟨rfl, he⟩

set_option maxHeartbeats 800000 in
theorem markJobS_c (w : World) (B : Nat) (v : Value) (xs : List Int) (L : Nat) (hL : xs.length = L * 5) (q : Int) (h : OwnI B 104 5 w v xs) (h0 : 0 ≤ q) (h1 : q + (L * 5 : Nat) ≤ 4611686018427387904) :
    Calls Try.prog 67 #[v, .int .i64 q] w (RetM w (feet [v]) (.int .i64 (q + (L * 5 : Nat))) fun w' => OwnI B 104 5 w' v (run q (L * 5))) := by
  obtain ⟨a, len, ca, rfl, hl, hca, hm, hop⟩ := Own.open_ h
  rw [List.length_map] at hl
  obtain rfl : L = len := by omega
  unfold maxLen at hm
  rcases hop with h00 | ⟨g, cur0, rfl, hB, hb0, hs0, -⟩
  · subst h00
    have hfin : OwnI B 104 5 w (.slice a 0 ca) (run q (0 * 5)) := by
      refine Own.empty h ?_ _ ?_
      · exact List.eq_nil_of_length_eq_zero (by simpa using hL)
      · simp [run]
    have HF := Lib.hid hfin
    clear hfin h hL hl
    have hq : q + ((0 * 5 : Nat) : Int) = q := by simp
    rw [hq]
    clear hq
    go_enter Try.func67, Try.ntmps67
    go_wp2
    go_loopw [1, 5] (fun kk i wr => kk = .int .i64 q ∧ i = .int .i64 0 ∧ wr = w) (fun _ _ _ => 0)
    case atStart => exact ⟨rfl, rfl, rfl⟩
    case round =>
      obtain ⟨rfl, rfl, rfl⟩ := hrel
      go_wp2
      go_ret
      exact ⟨rfl, Upd.refl _ _, HF.out⟩
  · have HS := Lib.hid hs0
    have HC := Lib.hid (show L * 5 ≤ ca * 5 by have := Nat.mul_le_mul_right 5 hca; omega)
    clear hs0 hL hl h
    go_enter Try.func67, Try.ntmps67
    go_wp2
    go_loopw [1, 5] (fun kk i wr => ∃ k : Nat, k ≤ L ∧ i = .int .i64 k ∧ (∃ q' : Int, q' = q + (k * 5 : Nat) ∧ kk = .int .i64 q') ∧ Upd w wr [g] ∧ ∃ cur, Blk wr g 104 cur ∧ cur.size = ca * 5 ∧ Pre cur (k * 5) ((run q (L * 5)).map (.int .i64))) (fun _ i _ => L - (intOf i).toNat)
    case atStart => exact ⟨0, Nat.zero_le _, rfl, ⟨q, by simp, rfl⟩, Upd.refl _ _, cur0, hb0, HS.out, by simpa using Pre.zero _ _⟩
    case round =>
      obtain ⟨k, hk, rfl, ⟨q', hq', rfl⟩, he, cur, hblk, hsz, hpre⟩ := hrel
      clear HS
      have HS := Lib.hid hsz
      have HQ := Lib.hid hq'
      by_cases hlt : k < L
      · have hq1 : 0 ≤ q' ∧ q' + 5 ≤ 4611686018427387904 := by have := mul_lt_of hlt 5; omega
        obtain ⟨hq1, hq2⟩ := hq1
        clear hsz hq'
        obtain ⟨z0, g0⟩ : ∃ z, wr.cell? ⟨g, k * 5, none⟩ = some z := ⟨_, by rw [hblk.cell]; exact Array.getElem?_eq_getElem (by have := HS.out; have := HC.out; have := mul_lt_of hlt 5; omega)⟩
        have f0 := hblk.frozen (k * 5)
        obtain ⟨z1, g1⟩ : ∃ z, wr.cell? ⟨g, k * 5 + 1, none⟩ = some z := ⟨_, by rw [hblk.cell]; exact Array.getElem?_eq_getElem (by have := HS.out; have := HC.out; have := mul_lt_of hlt 5; omega)⟩
        have f1 := hblk.frozen (k * 5 + 1)
        obtain ⟨z2, g2⟩ : ∃ z, wr.cell? ⟨g, k * 5 + 2, none⟩ = some z := ⟨_, by rw [hblk.cell]; exact Array.getElem?_eq_getElem (by have := HS.out; have := HC.out; have := mul_lt_of hlt 5; omega)⟩
        have f2 := hblk.frozen (k * 5 + 2)
        obtain ⟨z3, g3⟩ : ∃ z, wr.cell? ⟨g, k * 5 + 3, none⟩ = some z := ⟨_, by rw [hblk.cell]; exact Array.getElem?_eq_getElem (by have := HS.out; have := HC.out; have := mul_lt_of hlt 5; omega)⟩
        have f3 := hblk.frozen (k * 5 + 3)
        obtain ⟨z4, g4⟩ : ∃ z, wr.cell? ⟨g, k * 5 + 4, none⟩ = some z := ⟨_, by rw [hblk.cell]; exact Array.getElem?_eq_getElem (by have := HS.out; have := HC.out; have := mul_lt_of hlt 5; omega)⟩
        have f4 := hblk.frozen (k * 5 + 4)
        go_wp2
        go_roundw
        case rel => exact ⟨k + 1, by omega, by go_num, ⟨_, by have := HQ.out; omega, rfl⟩, (((((he.setCell (by simp) _).setCell (by simp) _).setCell (by simp) _).setCell (by simp) _).setCell (by simp) _), _, (((((hblk.set_ _ _).set_ _ _).set_ _ _).set_ _ _).set_ _ _), by simp; exact HS.out, ((((((hpre.set (run_cell' (by have := mul_lt_of hlt 5; omega) (by have := HQ.out; omega)) (by have := HS.out; have := mul_lt_of hlt 5; have := HC.out; omega)).set (run_cell' (by have := mul_lt_of hlt 5; omega) (by have := HQ.out; omega)) (by have := HS.out; have := mul_lt_of hlt 5; have := HC.out; simp; omega)).set (run_cell' (by have := mul_lt_of hlt 5; omega) (by have := HQ.out; omega)) (by have := HS.out; have := mul_lt_of hlt 5; have := HC.out; simp; omega)).set (run_cell' (by have := mul_lt_of hlt 5; omega) (by have := HQ.out; omega)) (by have := HS.out; have := mul_lt_of hlt 5; have := HC.out; simp; omega)).set (run_cell' (by have := mul_lt_of hlt 5; omega) (by have := HQ.out; omega)) (by have := HS.out; have := mul_lt_of hlt 5; have := HC.out; simp; omega))).cast (by omega)⟩
        case measure => simp [intOf]; omega
      · obtain rfl : k = L := by omega
        clear hsz hq'
        go_wp2
        go_ret
        refine ⟨congrArg (fun z => Ending.returned (.int .i64 z)) HQ.out, he, Own.of_blk hblk hB HS.out (by simp [length_run]) hca (by unfold maxLen; omega) hpre⟩

set_option maxHeartbeats 800000 in
theorem heldJobS_c (w : World) (v : Value) (L : Nat) (q : Int) (h : Ints 5 w v (run q (L * 5))) (h0 : 0 ≤ q) (h1 : q + (L * 5 : Nat) ≤ 4611686018427387904) :
    Calls Try.prog 79 #[v, .int .i64 q] w (RetV w (.int .i64 (q + (L * 5 : Nat)))) := by
  obtain ⟨a, len, ca, rfl, hl, hca, hm, ha⟩ := h.open_
  rw [length_run] at hl
  obtain rfl : L = len := by omega
  have HA := Lib.hid ha
  clear ha hl h
  unfold maxLen at hm
  go_enter Try.func79, Try.ntmps79
  go_wp2
  go_loopw [1, 5] (fun kk i wr => ∃ k : Nat, k ≤ L ∧ i = .int .i64 k ∧ (∃ q' : Int, q' = q + (k * 5 : Nat) ∧ kk = .int .i64 q') ∧ Ext w wr) (fun _ i _ => L - (intOf i).toNat)
  case atStart => exact ⟨0, Nat.zero_le _, rfl, ⟨q, by simp, rfl⟩, Ext.refl _⟩
  case round =>
    obtain ⟨k, hk, rfl, ⟨q', hq', rfl⟩, he⟩ := hrel
    by_cases hlt : k < L
    · obtain ⟨b1, o1, rfl, _, c1⟩ := HA.out k hlt
      obtain ⟨x0, hx0, c10⟩ := c1 0 (by omega)
      obtain rfl : q' = x0 := by rw [run_get _ _ _ (by have := mul_lt_of hlt 5; omega)] at hx0; have := Option.some.inj hx0; omega
      have d0 := he.cell c10
      obtain ⟨x1, hx1, c11⟩ := c1 1 (by omega)
      obtain rfl : x1 = q' + 1 := by rw [run_get _ _ _ (by have := mul_lt_of hlt 5; omega)] at hx1; have := Option.some.inj hx1; omega
      have d1 := he.cell c11
      obtain ⟨x2, hx2, c12⟩ := c1 2 (by omega)
      obtain rfl : x2 = q' + 2 := by rw [run_get _ _ _ (by have := mul_lt_of hlt 5; omega)] at hx2; have := Option.some.inj hx2; omega
      have d2 := he.cell c12
      obtain ⟨x3, hx3, c13⟩ := c1 3 (by omega)
      obtain rfl : x3 = q' + 3 := by rw [run_get _ _ _ (by have := mul_lt_of hlt 5; omega)] at hx3; have := Option.some.inj hx3; omega
      have d3 := he.cell c13
      obtain ⟨x4, hx4, c14⟩ := c1 4 (by omega)
      obtain rfl : x4 = q' + 4 := by rw [run_get _ _ _ (by have := mul_lt_of hlt 5; omega)] at hx4; have := Option.some.inj hx4; omega
      have d4 := he.cell c14
      have hq1 : 0 ≤ q' ∧ q' + 5 ≤ 4611686018427387904 := by have := mul_lt_of hlt 5; omega
      obtain ⟨hq1, hq2⟩ := hq1
      have HQ := Lib.hid hq'
      simp only [Nat.add_zero] at d0
      clear c1 c10 hx0 c11 hx1 c12 hx2 c13 hx3 c14 hx4 hq'
      go_wp2
      repeat (go_quiet (fail); go_wp2)
      go_roundw
      case rel => exact ⟨k + 1, by omega, by go_num, ⟨_, by have := HQ.out; omega, rfl⟩, by repeat' (first | (with_reducible exact Ext.refl _) | (with_reducible assumption) | (with_reducible refine Ext.drewN ?_ _) | (with_reducible refine Ext.drew ?_) | (with_reducible refine Ext.alloc ?_ _) | (with_reducible refine Ext.setCell ?_ ?_ _) | (with_reducible exact Nat.le_refl _) | (with_reducible refine Ext.trans ?_ (by assumption)) | omega)⟩
      case measure => simp [intOf]; omega
    · obtain rfl : k = L := by omega
      have HQ := Lib.hid hq'
      clear hq'
      go_wp2
      go_ret
      exact ⟨congrArg (fun z => Ending.returned (.int .i64 z)) HQ.out, he⟩

set_option maxHeartbeats 800000 in
theorem eqLease_c (w : World) (x0 x1 x2 : Int) :
    Calls Try.prog 65 #[.agg #[.int .i64 x0, .int .i64 x1, .int .i64 x2], .agg #[.int .i64 x0, .int .i64 x1, .int .i64 x2]] w (RetV w (.bool true)) := by
  go_enter Try.func65, Try.ntmps65
  go_wp2
  repeat (go_quiet (fail); go_wp2)
  go_ret
  exact ⟨rfl, by repeat' (first | (with_reducible exact Ext.refl _) | (with_reducible assumption) | (with_reducible refine Ext.drewN ?_ _) | (with_reducible refine Ext.drew ?_) | (with_reducible refine Ext.alloc ?_ _) | (with_reducible refine Ext.setCell ?_ ?_ _) | (with_reducible exact Nat.le_refl _) | (with_reducible refine Ext.trans ?_ (by assumption)) | omega)⟩

set_option maxHeartbeats 800000 in
theorem eqState_c (w : World) (c0 : Int) (c1 : Int) (s2 : Value) (t2 : Value) (d2 : List Int) (s3 : Value) (t3 : Value) (d3 : List Int) (c4 : Int) (c5 : Int) (c6 : Int) (h2 : Ints 2 w s2 d2) (k2 : Ints 2 w t2 d2) (h3 : Ints 5 w s3 d3) (k3 : Ints 5 w t3 d3) :
    Calls Try.prog 29 #[.agg #[.int .i64 c0, .int .i64 c1, s2, s3, .int .i64 c4, .int .i64 c5, .int .i64 c6], .agg #[.int .i64 c0, .int .i64 c1, t2, t3, .int .i64 c4, .int .i64 c5, .int .i64 c6]] w (RetV w (.bool true)) := by
  go_enter Try.func29, Try.ntmps29
  go_wp2_with (first | (go_at_call 63; refine (eqPairS_c _ s2 t2 d2 (h2.ext (by repeat' (first | (with_reducible exact Ext.refl _) | (with_reducible assumption) | (with_reducible refine Ext.drewN ?_ _) | (with_reducible refine Ext.drew ?_) | (with_reducible refine Ext.alloc ?_ _) | (with_reducible refine Ext.setCell ?_ ?_ _) | (with_reducible exact Nat.le_refl _) | (with_reducible refine Ext.trans ?_ (by assumption)) | omega))) (k2.ext (by repeat' (first | (with_reducible exact Ext.refl _) | (with_reducible assumption) | (with_reducible refine Ext.drewN ?_ _) | (with_reducible refine Ext.drew ?_) | (with_reducible refine Ext.alloc ?_ _) | (with_reducible refine Ext.setCell ?_ ?_ _) | (with_reducible exact Nat.le_refl _) | (with_reducible refine Ext.trans ?_ (by assumption)) | omega)))).mono ?_; rintro e w1 ⟨rfl, hx1⟩; have hz1 := hx1.size; obtain ⟨hc1, hf1⟩ := hx1.cells; (repeat (first | simp only [World.size_alloc] at hz1 hc1 hf1 | simp only [World.size_setCell] at hz1 hc1 hf1)); have hy1_0 : w.heap.size < w1.heap.size := (by omega); have hy1_1 : w.heap.size + 1 < w1.heap.size := (by omega)) | (go_at_call 64; refine (eqJobS_c _ s3 t3 d3 (h3.ext (by repeat' (first | (with_reducible exact Ext.refl _) | (with_reducible assumption) | (with_reducible refine Ext.drewN ?_ _) | (with_reducible refine Ext.drew ?_) | (with_reducible refine Ext.alloc ?_ _) | (with_reducible refine Ext.setCell ?_ ?_ _) | (with_reducible exact Nat.le_refl _) | (with_reducible refine Ext.trans ?_ (by assumption)) | omega))) (k3.ext (by repeat' (first | (with_reducible exact Ext.refl _) | (with_reducible assumption) | (with_reducible refine Ext.drewN ?_ _) | (with_reducible refine Ext.drew ?_) | (with_reducible refine Ext.alloc ?_ _) | (with_reducible refine Ext.setCell ?_ ?_ _) | (with_reducible exact Nat.le_refl _) | (with_reducible refine Ext.trans ?_ (by assumption)) | omega)))).mono ?_; rintro e w2 ⟨rfl, hx2⟩; have hz2 := hx2.size; obtain ⟨hc2, hf2⟩ := hx2.cells; (repeat (first | simp only [World.size_alloc] at hz2 hc2 hf2 | simp only [World.size_setCell] at hz2 hc2 hf2)); have hy2_0 : w.heap.size < w2.heap.size := (by omega); have hy2_1 : w.heap.size + 1 < w2.heap.size := (by omega)) | (go_at_call 65; refine (eqLease_c _ c4 c5 c6).mono ?_; rintro e w3 ⟨rfl, hx3⟩; have hz3 := hx3.size; obtain ⟨hc3, hf3⟩ := hx3.cells; (repeat (first | simp only [World.size_alloc] at hz3 hc3 hf3 | simp only [World.size_setCell] at hz3 hc3 hf3)); have hy3_0 : w.heap.size < w3.heap.size := (by omega); have hy3_1 : w.heap.size + 1 < w3.heap.size := (by omega)))
  go_ret
  refine ⟨rfl, ?_⟩
  repeat' (first | (with_reducible exact Ext.refl _) | (with_reducible assumption) | (with_reducible refine Ext.drewN ?_ _) | (with_reducible refine Ext.drew ?_) | (with_reducible refine Ext.alloc ?_ _) | (with_reducible refine Ext.setCell ?_ ?_ _) | (with_reducible exact Nat.le_refl _) | (with_reducible refine Ext.trans ?_ (by assumption)) | omega)

set_option maxHeartbeats 1600000 in
set_option maxRecDepth 100000 in
theorem markState_c (w : World) (B : Nat) (c0 c1 : Int) (s2 : Value) (d2 : List Int) (L2 : Nat) (hL2 : d2.length = L2 * 2) (s3 : Value) (d3 : List Int) (L3 : Nat) (hL3 : d3.length = L3 * 5) (c4 c5 c6 : Int) (q : Int) (h2 : OwnI B 106 2 w s2 d2) (h3 : OwnI B 104 5 w s3 d3)
    (hd : ∀ k, k ∈ feet [s2] → k ∈ feet [s3] → False) (hq0 : 0 ≤ q) (hq1 : q + (L2 * 2 : Nat) + (L3 * 5 : Nat) ≤ 4611686018427387904) :
    Calls Try.prog 30 #[.agg #[.int .i64 c0, .int .i64 c1, s2, s3, .int .i64 c4, .int .i64 c5, .int .i64 c6], .int .i64 q] w (RetM w (feet [s2] ++ feet [s3]) (.int .i64 (q + (L2 * 2 : Nat) + (L3 * 5 : Nat))) fun w' => OwnI B 106 2 w' s2 (run q (L2 * 2)) ∧ OwnI B 104 5 w' s3 (run (q + (L2 * 2 : Nat)) (L3 * 5))) := by
  obtain ⟨a2, n2, k2, rfl⟩ := h2.shape
  obtain ⟨a3, n3, k3, rfl⟩ := h3.shape
  obtain ⟨Q, hQ⟩ : ∃ z : Int, z = q + ((L2 * 2 : Nat) : Int) := ⟨_, rfl⟩
  have h2f := h2.foot
  rw [← hQ] at hq1 ⊢
  have hQ0 : 0 ≤ Q := by omega
  have HQ := Lib.hid hQ
  go_enter Try.func30, Try.ntmps30
  go_wp2_with fail
  refine (markPairS_c _ B _ _ L2 hL2 _ (h2.ext (by repeat' (first | (with_reducible exact Ext.refl _) | (with_reducible assumption) | (with_reducible refine Ext.drewN ?_ _) | (with_reducible refine Ext.drew ?_) | (with_reducible refine Ext.alloc ?_ _) | (with_reducible refine Ext.setCell ?_ ?_ _) | (with_reducible refine Ext.setRow ?_ ?_ _) | (with_reducible exact Nat.le_refl _) | (with_reducible refine Ext.trans ?_ (by assumption)) | omega))) (by omega) (by omega)).mono ?_
  rintro e w1 ⟨rfl, hx1, g2⟩
  rw [← HQ.out]
  clear hQ
  have hb : Blk w1 w.heap.size 37 #[.int .i64 c0, .int .i64 c1, .slice a2 n2 k2, .slice a3 n3 k3, .int .i64 c4, .int .i64 c5, .int .i64 c6] := Blk.upd (Blk.new _ _ _) hx1 (fun hk => by have := h2f _ hk; omega)
  have hc := hb.cell; have hlt := hb.lt
  have g3 : OwnI B 104 5 w1 (.slice a3 n3 k3) d3 := OwnI.upd' (h3.ext ((Ext.refl w).alloc _)) hx1 (fun k h4 h5 => hd k h5 h4)
  go_wp2_with fail
  refine (markJobS_c _ B _ _ L3 hL3 _ (g3.ext (by repeat' (first | (with_reducible exact Ext.refl _) | (with_reducible assumption) | (with_reducible refine Ext.drewN ?_ _) | (with_reducible refine Ext.drew ?_) | (with_reducible refine Ext.alloc ?_ _) | (with_reducible refine Ext.setCell ?_ ?_ _) | (with_reducible refine Ext.setRow ?_ ?_ _) | (with_reducible exact Nat.le_refl _) | (with_reducible refine Ext.trans ?_ (by assumption)) | omega))) (by omega) (by omega)).mono ?_
  rintro e w2 ⟨rfl, hx2, g3'⟩
  clear hc
  go_wp2
  go_ret
  refine ⟨rfl, ((Ext.upd ((Ext.refl w).alloc _) _).trans (hx1.more (fun k hk => List.mem_append_left _ hk))).trans (hx2.more (fun k hk => List.mem_append_right _ hk)), OwnI.upd' g2 hx2 (fun k h4 h5 => hd k h4 h5), g3'⟩
set_option maxHeartbeats 1600000 in
set_option maxRecDepth 100000 in
theorem heldState_c (w : World) (c0 c1 : Int) (s2 : Value) (L2 : Nat) (s3 : Value) (L3 : Nat) (c4 c5 c6 : Int) (q : Int) (h2 : Ints 2 w s2 (run q (L2 * 2))) (h3 : Ints 5 w s3 (run (q + (L2 * 2 : Nat)) (L3 * 5))) (hq0 : 0 ≤ q) (hq1 : q + (L2 * 2 : Nat) + (L3 * 5 : Nat) ≤ 4611686018427387904) :
    Calls Try.prog 41 #[.agg #[.int .i64 c0, .int .i64 c1, s2, s3, .int .i64 c4, .int .i64 c5, .int .i64 c6], .int .i64 q] w (RetV w (.int .i64 (q + (L2 * 2 : Nat) + (L3 * 5 : Nat)))) := by
  obtain ⟨a2, n2, k2, rfl⟩ := h2.shape
  obtain ⟨a3, n3, k3, rfl⟩ := h3.shape
  obtain ⟨Q, hQ⟩ : ∃ z : Int, z = q + ((L2 * 2 : Nat) : Int) := ⟨_, rfl⟩
  rw [← hQ] at hq1 h3 ⊢
  obtain ⟨R, hR⟩ : ∃ z : Int, z = Q + ((L3 * 5 : Nat) : Int) := ⟨_, rfl⟩
  rw [← hR] at hq1 ⊢
  have hQ0 : 0 ≤ Q := by omega
  have hR0 : 0 ≤ R := by omega
  have hQ1 : Q + ((L3 * 5 : Nat) : Int) ≤ 4611686018427387904 := by omega
  have ht0 : decide (Q < 0) = false := by simp; omega
  have ht1 : decide (R < 0) = false := by simp; omega
  have HQ := Lib.hid hQ; have HR := Lib.hid hR
  have hq2 : q + ((L2 * 2 : Nat) : Int) ≤ 4611686018427387904 := by omega
  clear hQ hR
  go_enter Try.func41, Try.ntmps41
  go_wp2_with fail
  refine (heldPairS_c _ _ L2 q (h2.ext (by repeat' (first | (with_reducible exact Ext.refl _) | (with_reducible assumption) | (with_reducible refine Ext.drewN ?_ _) | (with_reducible refine Ext.drew ?_) | (with_reducible refine Ext.alloc ?_ _) | (with_reducible refine Ext.setCell ?_ ?_ _) | (with_reducible refine Ext.setRow ?_ ?_ _) | (with_reducible exact Nat.le_refl _) | (with_reducible refine Ext.trans ?_ (by assumption)) | omega))) (by omega) hq2).mono ?_
  rintro e w1 ⟨rfl, hx1⟩
  rw [← HQ.out]
  have hb : Blk w1 w.heap.size 37 #[.int .i64 c0, .int .i64 c1, .slice a2 n2 k2, .slice a3 n3 k3, .int .i64 c4, .int .i64 c5, .int .i64 c6] := Blk.ext (Blk.new _ _ _) hx1
  have hc := hb.cell; have hlt := hb.lt
  go_wp2_with fail
  refine (heldJobS_c _ _ L3 Q (h3.ext (by repeat' (first | (with_reducible exact Ext.refl _) | (with_reducible assumption) | (with_reducible refine Ext.drewN ?_ _) | (with_reducible refine Ext.drew ?_) | (with_reducible refine Ext.alloc ?_ _) | (with_reducible refine Ext.setCell ?_ ?_ _) | (with_reducible refine Ext.setRow ?_ ?_ _) | (with_reducible exact Nat.le_refl _) | (with_reducible refine Ext.trans ?_ (by assumption)) | omega))) (by omega) hQ1).mono ?_
  rintro e w2 ⟨rfl, hx2⟩
  rw [← HR.out]
  clear hc
  go_wp2
  go_ret
  refine ⟨rfl, ?_⟩
  repeat' (first | (with_reducible exact Ext.refl _) | (with_reducible assumption) | (with_reducible refine Ext.drewN ?_ _) | (with_reducible refine Ext.drew ?_) | (with_reducible refine Ext.alloc ?_ _) | (with_reducible refine Ext.setCell ?_ ?_ _) | (with_reducible refine Ext.setRow ?_ ?_ _) | (with_reducible exact Nat.le_refl _) | (with_reducible refine Ext.trans ?_ (by assumption)) | omega)

end Go.Proofs.Ytemhbbpbmgpcaaa
