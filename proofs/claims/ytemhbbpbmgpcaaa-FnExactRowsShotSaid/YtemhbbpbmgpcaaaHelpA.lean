/- HelpA: contracts of the statements' helper functions. -/
import Derived.Test.YtemhbbpbmgpcaaaRows
import Derived.Test.YtemhbbpbmgpcaaaBase
namespace Go.Proofs.Ytemhbbpbmgpcaaa
open Go.RowKit Go.G8

theorem info_Int64 : (Try.prog.info? 2).map (fun i => (i.zero, i.size, i.bytes)) = some (some (.int .i64 0), 1, 8) := by kernel_rfl


set_option maxHeartbeats 800000 in
theorem toInt64S_c (w : World) (v : Value) (xs : List Int) (L : Nat) (hL : xs.length = L * 1) (h : Ints 1 w v xs) (hs : L ≤ 1048576) :
    Calls Try.prog 37 #[v] w (Ret w fun v' w' => OwnI w.heap.size 2 1 w' v' xs) := by
  obtain ⟨a, len, ca, rfl, hl, hca, hm, ha⟩ := h.open_
  obtain rfl : L = len := by omega
  have HA := Lib.hid ha; have HL := Lib.hid hl
  clear ha hl hL
  unfold maxLen at hm
  obtain ⟨i0, hi, hz0, hz1, hz2⟩ := info_parts info_Int64
  go_enter Try.func37, Try.ntmps37
  have hmk := fun W => run_make (P := Try.prog) W 52 2 i0 _ Try.underlying52 hi hz0 .i64 .i64 L L (by omega) (by omega) (by rw [hz2]; omega) (by omega)
  simp only [Int.toNat_natCast, hz1] at hmk
  go_wp2
  clear hmk
  go_loopw [4] (fun i wr => ∃ k : Nat, k ≤ L ∧ i = .int .i64 k ∧ Ext w wr ∧ ∃ cur, Blk wr w.heap.size 2 cur ∧ cur.size = L * 1 ∧ Pre cur (k) (xs.map (.int .i64))) (fun i _ => L - (intOf i).toNat)
  case atStart => exact ⟨0, Nat.zero_le _, rfl, (Ext.refl _).alloc _, _, Blk.new _ _ _, by simp [size_madeCells], by simpa using Pre.zero _ _⟩
  case round =>
    obtain ⟨k, hk, rfl, he, cur, hblk, hsz, hpre⟩ := hrel
    by_cases hlt : k < L
    · obtain ⟨b1, o1, rfl, _, c1⟩ := HA.out k hlt
      obtain ⟨x0, hx0, c10⟩ := c1 0 (by omega)
      have d0 := he.cell c10
      simp only [Nat.add_zero, Nat.mul_one] at d0
      clear c1 c10
      have HX0 := Lib.hid hx0
      have HS := Lib.hid hsz
      clear hx0 hsz
      obtain ⟨z0, g0⟩ : ∃ z, wr.cell? ⟨w.heap.size, k, none⟩ = some z := ⟨_, by rw [hblk.cell]; exact Array.getElem?_eq_getElem (by have := HS.out; omega)⟩; have f0 := hblk.frozen (k)
      go_wp2
      go_roundw
      case rel => exact ⟨k + 1, by omega, by go_num, (he.setCell (Nat.le_refl _) _), _, (hblk.set_ _ _), by simpa using HS.out, (hpre.set (by simpa using HX0.out) (by have := HS.out; omega))⟩
      case measure => simp [intOf]; omega
    · obtain rfl : k = L := by omega
      go_wp2
      go_ret
      exact ⟨_, rfl, he, Own.of_blk hblk (Nat.le_refl _) hsz (by simpa using HL.out) (Nat.le_refl _) (by unfold maxLen; omega) (hpre.cast (by omega))⟩

set_option maxHeartbeats 800000 in
theorem szInt64S_c (w : World) (v : Value) (xs : List Int) (L : Nat) (hL : xs.length = L * 1) (left : Int) (h : Ints 1 w v xs) (h0 : 0 ≤ left) (h1 : left ≤ 1048576) :
    Calls Try.prog 33 #[v, .int .i64 left] w (Ret w fun v' _ => SzR left L v') := by
  obtain ⟨a, len, ca, rfl, hl, hca, hm, -⟩ := h.open_
  obtain rfl : L = len := by omega
  clear h hl hL
  unfold maxLen at hm
  by_cases hlt : left < L
  · have ht : decide (left - (L : Int) < 0) = true := by simp; omega
    go_enter Try.func33, Try.ntmps33
    go_wp2
    go_ret
    exact ⟨_, rfl, Ext.refl _, .inl ⟨rfl, hlt⟩⟩
  · have ht : decide (left - (L : Int) < 0) = false := by simp; omega
    go_enter Try.func33, Try.ntmps33
    go_wp2
    go_ret
    exact ⟨_, rfl, Ext.refl _, .inr ⟨rfl, by omega⟩⟩

set_option maxHeartbeats 800000 in
theorem eqInt64S_c (w : World) (va vb : Value) (xs : List Int) (ha : Ints 1 w va xs) (hb : Ints 1 w vb xs) :
    Calls Try.prog 28 #[va, vb] w (RetV w (.bool true)) := by
  obtain ⟨a, len, ca, rfl, hl, hca, hm, ha'⟩ := ha.open_
  obtain ⟨b, len', cb, rfl, hl', _, _, hb'⟩ := hb.open_
  obtain rfl : len = len' := by omega
  have HA := Lib.hid ha'; have HB := Lib.hid hb'
  clear ha' hb' hl hl' ha hb
  unfold maxLen at hm
  go_enter Try.func28, Try.ntmps28
  go_wp2
  go_loopw [5] (fun i wr => ∃ k : Nat, k ≤ len ∧ i = .int .i64 k ∧ Ext w wr) (fun i _ => len - (intOf i).toNat)
  case atStart => exact ⟨0, Nat.zero_le _, rfl, Ext.refl _⟩
  case round =>
    obtain ⟨k, hk, rfl, he⟩ := hrel
    by_cases hlt : k < len
    · obtain ⟨b1, o1, rfl, _, c1⟩ := HA.out k hlt
      obtain ⟨b2, o2, rfl, _, c2⟩ := HB.out k hlt
      obtain ⟨x0, hx0, c10⟩ := c1 0 (by omega)
      obtain ⟨y0, hy0, c20⟩ := c2 0 (by omega)
      obtain rfl : x0 = y0 := by rw [hx0] at hy0; exact Option.some.inj hy0
      have d0 := he.cell c10; have e0 := he.cell c20
      simp only [Nat.add_zero, Nat.mul_one] at d0 e0
      clear c1 c2 c10 c20 hx0 hy0
      go_wp2
      go_quiet (fail)
      go_wp2
      go_roundw
      case rel => exact ⟨k + 1, by omega, by go_num, he.drewN _⟩
      case measure => simp [intOf]; omega
    · go_wp2
      go_ret
      exact ⟨rfl, he⟩

set_option maxHeartbeats 800000 in
theorem markInt64S_c (w : World) (B : Nat) (v : Value) (xs : List Int) (L : Nat) (hL : xs.length = L) (q : Int) (h : OwnI B 2 1 w v xs) (h0 : 0 ≤ q) (h1 : q + (L : Nat) ≤ 4611686018427387904) :
    Calls Try.prog 31 #[v, .int .i64 q] w (RetM w (feet [v]) (.int .i64 (q + (L : Nat))) fun w' => OwnI B 2 1 w' v (run q (L))) := by
  obtain ⟨a, len, ca, rfl, hl, hca, hm, hop⟩ := Own.open_ h
  rw [List.length_map] at hl
  obtain rfl : L = len := by omega
  unfold maxLen at hm
  rcases hop with h00 | ⟨g, cur0, rfl, hB, hb0, hs0, -⟩
  · subst h00
    have hfin : OwnI B 2 1 w (.slice a 0 ca) (run q (0)) := by
      refine Own.empty h ?_ _ ?_
      · exact List.eq_nil_of_length_eq_zero (by simpa using hL)
      · simp [run]
    have HF := Lib.hid hfin
    clear hfin h hL hl
    have hq : q + ((0 : Nat) : Int) = q := by simp
    rw [hq]
    clear hq
    go_enter Try.func31, Try.ntmps31
    go_wp2
    go_loopw [1, 5] (fun kk i wr => kk = .int .i64 q ∧ i = .int .i64 0 ∧ wr = w) (fun _ _ _ => 0)
    case atStart => exact ⟨rfl, rfl, rfl⟩
    case round =>
      obtain ⟨rfl, rfl, rfl⟩ := hrel
      go_wp2
      go_ret
      exact ⟨rfl, Upd.refl _ _, HF.out⟩
  · have HS := Lib.hid hs0
    have HC := Lib.hid (show L ≤ ca by have := Nat.mul_le_mul_right 1 hca; omega)
    clear hs0 hL hl h
    go_enter Try.func31, Try.ntmps31
    go_wp2
    go_loopw [1, 5] (fun kk i wr => ∃ k : Nat, k ≤ L ∧ i = .int .i64 k ∧ (∃ q' : Int, q' = q + (k : Nat) ∧ kk = .int .i64 q') ∧ Upd w wr [g] ∧ ∃ cur, Blk wr g 2 cur ∧ cur.size = ca ∧ Pre cur (k) ((run q (L)).map (.int .i64))) (fun _ i _ => L - (intOf i).toNat)
    case atStart => exact ⟨0, Nat.zero_le _, rfl, ⟨q, by simp, rfl⟩, Upd.refl _ _, cur0, hb0, by simpa using HS.out, by simpa using Pre.zero _ _⟩
    case round =>
      obtain ⟨k, hk, rfl, ⟨q', hq', rfl⟩, he, cur, hblk, hsz, hpre⟩ := hrel
      clear HS
      have HS := Lib.hid hsz
      have HQ := Lib.hid hq'
      by_cases hlt : k < L
      · have hq1 : 0 ≤ q' ∧ q' + 1 ≤ 4611686018427387904 := by have := mul_lt_of hlt 1; omega
        obtain ⟨hq1, hq2⟩ := hq1
        clear hsz hq'
        obtain ⟨z0, g0⟩ : ∃ z, wr.cell? ⟨g, k, none⟩ = some z := ⟨_, by rw [hblk.cell]; exact Array.getElem?_eq_getElem (by have := HS.out; have := HC.out; omega)⟩
        have f0 := hblk.frozen (k)
        go_wp2
        go_roundw
        case rel => exact ⟨k + 1, by omega, by go_num, ⟨_, by have := HQ.out; omega, rfl⟩, (he.setCell (by simp) _), _, (hblk.set_ _ _), by simp; exact HS.out, ((hpre.set (run_cell' (by have := mul_lt_of hlt 1; omega) (by have := HQ.out; omega)) (by have := HS.out; have := mul_lt_of hlt 1; have := HC.out; omega))).cast (by omega)⟩
        case measure => simp [intOf]; omega
      · obtain rfl : k = L := by omega
        clear hsz hq'
        go_wp2
        go_ret
        refine ⟨congrArg (fun z => Ending.returned (.int .i64 z)) HQ.out, he, Own.of_blk hblk hB (by simpa using HS.out) (by simp [length_run]) hca (by unfold maxLen; omega) (hpre.cast (by omega))⟩

set_option maxHeartbeats 800000 in
theorem heldInt64S_c (w : World) (v : Value) (L : Nat) (q : Int) (h : Ints 1 w v (run q (L))) (h0 : 0 ≤ q) (h1 : q + (L : Nat) ≤ 4611686018427387904) :
    Calls Try.prog 32 #[v, .int .i64 q] w (RetV w (.int .i64 (q + (L : Nat)))) := by
  obtain ⟨a, len, ca, rfl, hl, hca, hm, ha⟩ := h.open_
  rw [length_run] at hl
  obtain rfl : L = len := by omega
  have HA := Lib.hid ha
  clear ha hl h
  unfold maxLen at hm
  go_enter Try.func32, Try.ntmps32
  go_wp2
  go_loopw [1, 5] (fun kk i wr => ∃ k : Nat, k ≤ L ∧ i = .int .i64 k ∧ (∃ q' : Int, q' = q + (k : Nat) ∧ kk = .int .i64 q') ∧ Ext w wr) (fun _ i _ => L - (intOf i).toNat)
  case atStart => exact ⟨0, Nat.zero_le _, rfl, ⟨q, by simp, rfl⟩, Ext.refl _⟩
  case round =>
    obtain ⟨k, hk, rfl, ⟨q', hq', rfl⟩, he⟩ := hrel
    by_cases hlt : k < L
    · obtain ⟨b1, o1, rfl, _, c1⟩ := HA.out k hlt
      obtain ⟨x0, hx0, c10⟩ := c1 0 (by omega)
      obtain rfl : q' = x0 := by rw [run_get _ _ _ (by have := mul_lt_of hlt 1; omega)] at hx0; have := Option.some.inj hx0; omega
      have d0 := he.cell c10
      have hq1 : 0 ≤ q' ∧ q' + 1 ≤ 4611686018427387904 := by have := mul_lt_of hlt 1; omega
      obtain ⟨hq1, hq2⟩ := hq1
      have HQ := Lib.hid hq'
      simp only [Nat.add_zero, Nat.mul_one] at d0
      clear c1 c10 hx0 hq'
      go_wp2
      repeat (go_quiet (fail); go_wp2)
      go_roundw
      case rel => exact ⟨k + 1, by omega, by go_num, ⟨_, by have := HQ.out; omega, rfl⟩, by repeat' (first | (with_reducible exact Ext.refl _) | (with_reducible assumption) | (with_reducible refine Ext.drewN ?_ _) | (with_reducible refine Ext.drew ?_) | (with_reducible refine Ext.alloc ?_ _) | (with_reducible refine Ext.setCell ?_ ?_ _) | (with_reducible exact Nat.le_refl _) | (with_reducible refine Ext.trans ?_ (by assumption)) | omega)⟩
      case measure => simp [intOf]; omega
    · obtain rfl : k = L := by omega
      have HQ := Lib.hid hq'
      clear hq'
      go_wp2
      go_ret
      exact ⟨congrArg (fun z => Ending.returned (.int .i64 z)) HQ.out, he⟩














end Go.Proofs.Ytemhbbpbmgpcaaa
