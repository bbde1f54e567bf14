/- HelpC: contracts of the statements' helper functions on rows. -/
import Derived.Test.YtemhbbpbmgpcaaaHelpA
import Derived.Test.YtemhbbpbmgpcaaaNest
namespace Go.Proofs.Ytemhbbpbmgpcaaa
open Go.RowKit Go.G8

theorem info_Int64S : (Try.prog.info? 52).map (fun i => (i.zero, i.size, i.bytes)) = some (some (.slice none 0 0), 1, 24) := by kernel_rfl









theorem ncell_int {r : NRow} {t : Value} {j : Nat} {u : Int} (h : r.1[j]? = some u) : (ncell (r, t))[j]? = some (.int .i64 u) := by
  have hj : j < r.1.length := (List.getElem?_eq_some_iff.1 h).1
  simp only [ncell]
  rw [List.getElem?_append_left (by simpa using hj), List.getElem?_map, h]; rfl
theorem ncell_sl {r : NRow} {t : Value} {n : Nat} (h : r.1.length = n) : (ncell (r, t))[n]? = some t := by
  simp only [ncell]
  rw [List.getElem?_append_right (by simp [h])]; simp [h]
theorem ncells_at {rows : List NRow} {ss : List Value} {N j : Nat} {u : Value} (r : NRow) (t : Value) (h : (ncells rows ss).length = N) (hj : (ncell (r, t))[j]? = some u) : (ncells rows ss ++ ncell (r, t))[N + j]? = some u := by
  rw [List.getElem?_append_right (by omega), h, Nat.add_sub_cancel_left]; exact hj
theorem ncells_at0 {rows : List NRow} {ss : List Value} {N : Nat} {u : Value} (r : NRow) (t : Value) (h : (ncells rows ss).length = N) (hj : (ncell (r, t))[0]? = some u) : (ncells rows ss ++ ncell (r, t))[N]? = some u := ncells_at r t h hj
set_option maxHeartbeats 1600000 in
theorem toInt64SS_c (w : World) (v : Value) (rows : List NRow) (h : Nest 0 w v rows) (hs : rowsSize rows ≤ 1048576) :
    Calls Try.prog 16 #[v] w (Ret w fun v' w' => OwnNest w.heap.size 52 2 0 w' v' rows) := by
  have hwid := h.1
  obtain ⟨a, ca, rfl, hca, hm, ha⟩ := h.open_
  have HA := Lib.hid ha; have HW := Lib.hid hwid; have HZ := Lib.hid hs
  have hL : rows.length ≤ 1048576 := by unfold rowsSize at hs; omega
  clear ha h hwid hs
  unfold maxLen at hm
  obtain ⟨i0, hi, hz0, hz1, hz2⟩ := info_parts info_Int64S
  go_enter Try.func16, Try.ntmps16
  have hmk := fun W => run_make (P := Try.prog) W 31 52 i0 _ Try.underlying31 hi hz0 .i64 .i64 rows.length rows.length (by omega) (by omega) (by rw [hz2]; omega) (by omega)
  simp only [Int.toNat_natCast, hz1] at hmk
  go_wp2
  clear hmk
  go_loopw [4] (fun i wr => ∃ k : Nat, k ≤ rows.length ∧ i = .int .i64 k ∧ Ext w wr ∧ ∃ cur ss, Blk wr w.heap.size 52 cur ∧ cur.size = rows.length * 1 ∧ ss.length = k ∧ Pre cur (k) (ncells (rows.take k) ss) ∧ Inner (w.heap.size + 1) 2 wr (.slice (some ⟨w.heap.size, 0, none⟩) rows.length rows.length) (rows.take k) ss) (fun i _ => rows.length - (intOf i).toNat)
  case atStart => exact ⟨0, Nat.zero_le _, rfl, (Ext.refl _).alloc _, _, [], Blk.new _ _ _, by simp [size_madeCells], rfl, by simpa using Pre.zero _ _, ⟨fun i s q h1 => by simp at h1, fun i j s t k _ h1 => by simp at h1, fun i s k h1 => by simp at h1⟩⟩
  case round =>
    obtain ⟨k, hk, rfl, he, cur, ss, hblk, hsz, hssl, hpre, hinn⟩ := hrel
    by_cases hlt : k < rows.length
    · obtain ⟨r, b1, o1, s, hr, rfl, _, hci, hcs, hin0⟩ := HA.out k hlt
      have hrw := HW.out r (List.mem_of_getElem? hr)
      have d0 := he.cell hcs
      simp only [Nat.add_zero, Nat.zero_add, Nat.mul_one] at d0
      have hin := hin0.ext he
      obtain ⟨sa, sn, sc, rfl⟩ := hin.shape
      have HR := Lib.hid (rowsSize_row HZ.out hr)
      have HS := Lib.hid hsz; have HRW := Lib.hid hrw; have HK := Lib.hid hr
      have hlen : (ncells (rows.take k) ss).length = k := by rw [ncells_len (wid_take HW.out k) (by simp; omega)]; simp; omega
      have HL := Lib.hid hlen; have HSS := Lib.hid hssl
      clear hlen hssl

      clear hci hcs hrw hr hsz hin0
      go_wp2_with (first | (go_at_call 37; refine (toInt64S_c _ _ r.2 r.2.length (by omega) (hin.ext (by repeat' (first | (with_reducible exact Ext.refl _) | (with_reducible assumption) | (with_reducible refine Ext.drewN ?_ _) | (with_reducible refine Ext.drew ?_) | (with_reducible refine Ext.alloc ?_ _) | (with_reducible refine Ext.setCell ?_ ?_ _) | (with_reducible refine Ext.setRow ?_ ?_ _) | (with_reducible exact Nat.le_refl _) | (with_reducible refine Ext.trans ?_ (by assumption)) | omega))) HR.out).mono ?_; rintro e w1 ⟨t, rfl, hx, hg⟩; obtain ⟨ta, tn, tc, rfl⟩ := hg.shape; have hb1 := hblk.ext hx; obtain ⟨z0, g0⟩ : ∃ z, w1.cell? ⟨w.heap.size, k, none⟩ = some z := ⟨_, by rw [hb1.cell]; exact Array.getElem?_eq_getElem (by have := HS.out; omega)⟩; have f0 := hb1.frozen (k)))
      have hlen := HL.out; have hssl := HSS.out
      go_roundw
      case rel =>
        refine ⟨k + 1, by omega, by go_num, ((he.trans hx).setCell (Nat.le_refl _) _), _, ss ++ [.slice ta tn tc], (hb1.set_ _ _), by simpa using HS.out, by simp; omega, ?_, ?_⟩
        · rw [take_snoc HK.out, ncells_snoc (by simp; omega)]
          refine (((hpre.app (Nat.le_of_eq hlen.symm)).set (ncells_at0 r (.slice ta tn tc) hlen (ncell_sl HRW.out)) (by have := HS.out; omega))).cast ?_
          rfl
        · rw [take_snoc HK.out]
          have hi1 := (hinn.ext hx)
          refine (Inner.snoc hi1 (by simp; omega) (hg.mono (by have := he.size; have := hblk.lt; omega)) (fun i s' k' h1 h2 h3 => ?_) (fun k' h2 h3 => ?_)).keep ((Chg.refl _ _).setLow (by omega) _)
          · have hli : i < (rows.take k).length := by
              have : i < ss.length := (List.getElem?_eq_some_iff.1 h1).1
              simp; omega
            have h4 := (hinn.own i s' _ h1 (List.getElem?_eq_getElem hli)).foot k' h2
            have h5 := hg.foot k' h3
            omega
          · have h5 := hg.foot k' h2
            have := hblk.lt
            simp [feet, Value.ownBlock] at h3
            omega
      case measure => simp [intOf]; omega
    · obtain rfl : k = rows.length := by omega
      go_wp2
      go_ret
      rw [List.take_length] at hpre hinn
      exact ⟨_, rfl, he, ss, HW.out, hssl, Own.of_blk hblk (Nat.le_refl _) hsz (ncells_len HW.out hssl) (Nat.le_refl _) (by unfold maxLen; omega) (hpre.cast (by simp)), hinn.mono (by omega)⟩

set_option maxHeartbeats 1600000 in
theorem eqInt64SS_c (w : World) (va vb : Value) (rows : List NRow) (ha : Nest 0 w va rows) (hb : Nest 0 w vb rows) :
    Calls Try.prog 9 #[va, vb] w (RetV w (.bool true)) := by
  have hwid := ha.1
  obtain ⟨a, ca, rfl, hca, hm, ha'⟩ := ha.open_
  obtain ⟨b, cb, rfl, _, _, hb'⟩ := hb.open_
  have HA := Lib.hid ha'; have HB := Lib.hid hb'; have HW := Lib.hid hwid
  clear ha' hb' ha hb hwid
  unfold maxLen at hm
  go_enter Try.func9, Try.ntmps9
  go_wp2
  go_loopw [5] (fun i wr => ∃ k : Nat, k ≤ rows.length ∧ i = .int .i64 k ∧ Ext w wr) (fun i _ => rows.length - (intOf i).toNat)
  case atStart => exact ⟨0, Nat.zero_le _, rfl, Ext.refl _⟩
  case round =>
    obtain ⟨k, hk, rfl, he⟩ := hrel
    by_cases hlt : k < rows.length
    · obtain ⟨r, b1, o1, s, hr, rfl, _, hci, hcs, hin0⟩ := HA.out k hlt
      obtain ⟨r2, b2, o2, t, hr2, rfl, _, hci2, hcs2, hin2⟩ := HB.out k hlt
      obtain rfl : r = r2 := by rw [hr] at hr2; exact Option.some.inj hr2
      have hrw := HW.out r (List.mem_of_getElem? hr)
      have d0 := he.cell hcs
      simp only [Nat.add_zero, Nat.zero_add, Nat.mul_one] at d0

      have d02 := he.cell hcs2
      simp only [Nat.add_zero, Nat.zero_add, Nat.mul_one] at d02
      have g1 := hin0.ext he; have g2 := hin2.ext he
      obtain ⟨sa, sn, sc, rfl⟩ := g1.shape; obtain ⟨ta, tn, tc, rfl⟩ := g2.shape
      clear hci hcs hci2 hcs2 hrw hr hr2 hin0 hin2 
      go_wp2
      go_region_held3 (fun w' => Ext wr w' ∧ w'.cell? ⟨b1, o1 + k, none⟩ = some (.slice sa sn sc) ∧ w'.cell? ⟨b2, o2 + k, none⟩ = some (.slice ta tn tc)) (first | exact ⟨Ext.drew (Ext.refl _), d0, d02⟩ | exact held_of (S := fun w' => Ext wr w' ∧ w'.cell? ⟨b1, o1 + k, none⟩ = some (.slice sa sn sc) ∧ w'.cell? ⟨b2, o2 + k, none⟩ = some (.slice ta tn tc)) (by assumption) hx (fun a b h x => ⟨h.1.trans x, (h.1.trans x).cell d0, (h.1.trans x).cell d02⟩)) ((go_at_call 28; refine (eqInt64S_c _ _ _ r.2 (g1.ext (And.left ‹_›)) (g2.ext (And.left ‹_›))).mono ?_; rintro e w' ⟨rfl, hx⟩))
      go_wp2
      go_roundw
      case rel => exact ⟨k + 1, by omega, by go_num, he.trans (And.left ‹_›)⟩
      case measure => simp [intOf]; omega
    · go_wp2
      go_ret
      exact ⟨rfl, he⟩

set_option maxHeartbeats 1600000 in
theorem szInt64SS_c (w : World) (v : Value) (rows : List NRow) (left : Int) (h : Nest 0 w v rows) (h0 : 0 ≤ left) (h1 : left ≤ 1048576) :
    Calls Try.prog 14 #[v, .int .i64 left] w (Ret w fun v' _ => SzR left (rowsSize rows) v') := by
  have hwid := h.1
  obtain ⟨a, ca, rfl, hca, hm, ha⟩ := h.open_
  have HA := Lib.hid ha; have HW := Lib.hid hwid
  clear ha h hwid
  unfold maxLen at hm
  by_cases hlt : left < rows.length
  · have ht : decide (left - (rows.length : Int) < 0) = true := by simp; omega
    go_enter Try.func14, Try.ntmps14
    go_wp2
    go_ret
    exact ⟨_, rfl, Ext.refl _, .inl ⟨rfl, by unfold rowsSize; omega⟩⟩
  · have ht : decide (left - (rows.length : Int) < 0) = false := by simp; omega
    go_enter Try.func14, Try.ntmps14
    go_wp2
    clear ht
    go_loopw [1, 5] (fun lv i wr => ∃ k : Nat, k ≤ rows.length ∧ i = .int .i64 k ∧ (∃ z : Int, z = left - rows.length - (((rows.take k).map (fun r => r.2.length)).sum : Nat) ∧ 0 ≤ z ∧ lv = .int .i64 z) ∧ Ext w wr) (fun _ i _ => rows.length - (intOf i).toNat)
    case atStart => exact ⟨0, Nat.zero_le _, rfl, ⟨_, by simp, by omega, rfl⟩, Ext.refl _⟩
    case round =>
      obtain ⟨k, hk, rfl, ⟨z, hz, hz0, rfl⟩, he⟩ := hrel
      have HZ := Lib.hid hz; 
      by_cases hlt : k < rows.length
      · obtain ⟨r, b1, o1, s, hr, rfl, _, hci, hcs, hin0⟩ := HA.out k hlt
        have hrw := HW.out r (List.mem_of_getElem? hr)
        have d0 := he.cell hcs
        simp only [Nat.add_zero, Nat.zero_add, Nat.mul_one] at d0
        have hin := hin0.ext he
        obtain ⟨sa, sn, sc, rfl⟩ := hin.shape
        have HK := Lib.hid hr
        have hz1 : z ≤ 1048576 := by omega
        clear hci hcs hrw hr hin0 hz 
        go_wp2_with (first | (go_at_call 33; refine (szInt64S_c _ _ r.2 r.2.length (by omega) _ (hin.ext (by repeat' (first | (with_reducible exact Ext.refl _) | (with_reducible assumption) | (with_reducible refine Ext.drewN ?_ _) | (with_reducible refine Ext.drew ?_) | (with_reducible refine Ext.alloc ?_ _) | (with_reducible refine Ext.setCell ?_ ?_ _) | (with_reducible refine Ext.setRow ?_ ?_ _) | (with_reducible exact Nat.le_refl _) | (with_reducible refine Ext.trans ?_ (by assumption)) | omega))) (by omega) (by omega)).mono ?_; rintro e w1 ⟨v1, rfl, hx, hv⟩; rcases hv with ⟨rfl, q1⟩ | ⟨rfl, q1⟩))
        · go_ret
          refine ⟨_, rfl, he.trans (by repeat' (first | (with_reducible exact Ext.refl _) | (with_reducible assumption) | (with_reducible refine Ext.drewN ?_ _) | (with_reducible refine Ext.drew ?_) | (with_reducible refine Ext.alloc ?_ _) | (with_reducible refine Ext.setCell ?_ ?_ _) | (with_reducible refine Ext.setRow ?_ ?_ _) | (with_reducible exact Nat.le_refl _) | (with_reducible refine Ext.trans ?_ (by assumption)) | omega)), .inl ⟨rfl, ?_⟩⟩
          have h2 := rowsSize_take HK.out; have h3 := sum_take_le rows (k + 1); have h4 := HZ.out
          unfold rowsSize; omega
        · go_roundw
          case rel =>
            have h2 := rowsSize_take HK.out; have h4 := HZ.out
            exact ⟨k + 1, by omega, by go_num, ⟨_, by omega, by omega, rfl⟩, he.trans (by repeat' (first | (with_reducible exact Ext.refl _) | (with_reducible assumption) | (with_reducible refine Ext.drewN ?_ _) | (with_reducible refine Ext.drew ?_) | (with_reducible refine Ext.alloc ?_ _) | (with_reducible refine Ext.setCell ?_ ?_ _) | (with_reducible refine Ext.setRow ?_ ?_ _) | (with_reducible exact Nat.le_refl _) | (with_reducible refine Ext.trans ?_ (by assumption)) | omega))⟩
          case measure => simp [intOf]; omega
      · obtain rfl : k = rows.length := by omega
        clear hz
        go_wp2
        go_ret
        have h4 := HZ.out
        rw [List.take_length] at h4
        refine ⟨_, rfl, he, .inr ⟨congrArg (Value.int .i64) ?_, ?_⟩⟩ <;> (unfold rowsSize; omega)

set_option maxRecDepth 100000 in
set_option maxHeartbeats 1600000 in
theorem heldInt64SS_c (w : World) (v : Value) (rows : List NRow) (q : Int) (h : Nest 0 w v (marks 0 q rows)) (h0 : 0 ≤ q) (h1 : q + (tot 0 rows : Nat) ≤ 4611686018427387904) :
    Calls Try.prog 13 #[v, .int .i64 q] w (RetV w (.int .i64 (q + (tot 0 rows : Nat)))) := by
  obtain ⟨a, ca, rfl, hca, hm, ha⟩ := h.open_
  rw [length_marks] at hca ha ⊢
  have HA := Lib.hid ha
  clear ha h
  unfold maxLen at hm
  go_enter Try.func13, Try.ntmps13
  go_wp2
  go_loopw [1, 5] (fun kk i wr => ∃ k : Nat, k ≤ rows.length ∧ i = .int .i64 k ∧ (∃ q' : Int, q' = q + (tot 0 (rows.take k) : Nat) ∧ kk = .int .i64 q') ∧ Ext w wr) (fun _ i _ => rows.length - (intOf i).toNat)
  case atStart => exact ⟨0, Nat.zero_le _, rfl, ⟨q, by simp [tot], rfl⟩, Ext.refl _⟩
  case round =>
    obtain ⟨k, hk, rfl, ⟨q', hq', rfl⟩, he⟩ := hrel
    by_cases hlt : k < rows.length
    · obtain ⟨r0, b1, o1, s, hr0, rfl, _, hci, hcs, hin0⟩ := HA.out k hlt
      have hr : rows[k]? = some rows[k] := List.getElem?_eq_getElem hlt
      obtain ⟨L, hLr⟩ : ∃ L, L = (rows[k]).2.length := ⟨_, rfl⟩
      have hm0 := marks_get (n := 0) (q := q) hr
      rw [← hq', ← hLr] at hm0
      obtain rfl : r0 = (run q' 0, run (q' + (0 : Nat)) L) := by rw [hr0] at hm0; exact Option.some.inj hm0
      have ht1 := tot_take (n := 0) hr
      have ht2 := tot_le (n := 0) rows (k + 1)
      rw [← hLr] at ht1
      have HQ := Lib.hid hq'; have HT := Lib.hid ht1
      have hq0 : 0 ≤ q' ∧ q' + 0 + L ≤ 4611686018427387904 := by omega
      obtain ⟨hq1, hq2⟩ := hq0
      have d0 := he.cell hcs
      simp only [Nat.add_zero, Nat.zero_add, Nat.mul_one] at d0
      have hin : Ints 1 wr s (run (q') L) := by have := hin0.ext he; simpa using this
      obtain ⟨sa, sn, sc, rfl⟩ := hin.shape
      clear hci hcs hr0 hm0 hin0 hq' ht1 ht2 hLr hr 
      have hneg : decide (q' + (L : Int) < 0) = false := by simp; omega
      go_wp2_with (first | (go_at_call 32; refine (heldInt64S_c _ _ L _ (hin.ext (by repeat' (first | (with_reducible exact Ext.refl _) | (with_reducible assumption) | (with_reducible refine Ext.drewN ?_ _) | (with_reducible refine Ext.drew ?_) | (with_reducible refine Ext.alloc ?_ _) | (with_reducible refine Ext.setCell ?_ ?_ _) | (with_reducible refine Ext.setRow ?_ ?_ _) | (with_reducible exact Nat.le_refl _) | (with_reducible refine Ext.trans ?_ (by assumption)) | omega))) (by omega) (by omega)).mono ?_; rintro e w1 ⟨rfl, hx⟩))
      go_roundw
      case rel =>
        have h3 := HT.out; have h4 := HQ.out
        exact ⟨k + 1, by omega, by go_num, ⟨_, by omega, rfl⟩, he.trans (by repeat' (first | (with_reducible exact Ext.refl _) | (with_reducible assumption) | (with_reducible refine Ext.drewN ?_ _) | (with_reducible refine Ext.drew ?_) | (with_reducible refine Ext.alloc ?_ _) | (with_reducible refine Ext.setCell ?_ ?_ _) | (with_reducible refine Ext.setRow ?_ ?_ _) | (with_reducible exact Nat.le_refl _) | (with_reducible refine Ext.trans ?_ (by assumption)) | omega))⟩
      case measure => simp [intOf]; omega
    · obtain rfl : k = rows.length := by omega
      have HQ := Lib.hid hq'
      clear hq'
      go_wp2
      go_ret
      have h4 := HQ.out
      rw [List.take_length] at h4
      exact ⟨congrArg (fun z => Ending.returned (.int .i64 z)) h4, he⟩

set_option maxRecDepth 100000 in
set_option maxHeartbeats 1600000 in
theorem markInt64SS_c (w : World) (B : Nat) (v : Value) (rows : List NRow) (ss : List Value) (q : Int) (h : OwnNs B 52 2 0 w v rows ss) (h0 : 0 ≤ q) (h1 : q + (tot 0 rows : Nat) ≤ 4611686018427387904) :
    Calls Try.prog 12 #[v, .int .i64 q] w (RetM w (feet (v :: ss)) (.int .i64 (q + (tot 0 rows : Nat))) fun w' => OwnNs B 52 2 0 w' v (marks 0 q rows) ss) := by
  obtain ⟨a, len, ca, rfl, hlen, hca, hm⟩ : ∃ a len ca, v = .slice a len ca ∧ rows.length = len ∧ len ≤ ca ∧ ca ≤ maxLen := by
    obtain ⟨a, len, cap, h2, h3, h4, h5, _⟩ := Own.open_ h.2.2.1
    rw [ncells_len h.1 h.2.1] at h3
    exact ⟨a, len, cap, h2, Nat.eq_of_mul_eq_mul_right (by omega) h3, h4, h5⟩
  subst hlen
  have hssl := h.2.1
  have HO := Lib.hid h
  clear h
  unfold maxLen at hm
  go_enter Try.func12, Try.ntmps12
  go_wp2
  go_loopw [1, 5] (fun kk i wr => ∃ k : Nat, k ≤ rows.length ∧ i = .int .i64 k ∧ (∃ q' : Int, q' = q + (tot 0 (rows.take k) : Nat) ∧ kk = .int .i64 q') ∧ Upd w wr (feet (.slice a rows.length ca :: ss)) ∧ OwnNs B 52 2 0 wr (.slice a rows.length ca) ((marks 0 q rows).take k ++ rows.drop k) ss) (fun _ i _ => rows.length - (intOf i).toNat)
  case atStart => exact ⟨0, Nat.zero_le _, rfl, ⟨q, by simp [tot], rfl⟩, Upd.refl _ _, by simpa using HO.out⟩
  case round =>
    obtain ⟨k, hk, rfl, ⟨q', hq', rfl⟩, he, hown⟩ := hrel
    by_cases hlt : k < rows.length
    · have hr : rows[k]? = some rows[k] := List.getElem?_eq_getElem hlt
      have hml := length_marks 0 q rows
      have hmx := mix_get hml hr
      obtain ⟨s, hs⟩ : ∃ s, ss[k]? = some s := ⟨_, List.getElem?_eq_getElem (by omega)⟩
      obtain ⟨L, hLr⟩ : ∃ L, L = (rows[k]).2.length := ⟨_, rfl⟩
      have hm0 := marks_get (n := 0) (q := q) hr
      rw [← hq', ← hLr] at hm0
      have hstep := mix_step hml hm0
      have ht1 := tot_take (n := 0) hr
      have ht2 := tot_le (n := 0) rows (k + 1)
      rw [← hLr] at ht1
      have hq0 : 0 ≤ q' ∧ q' + 0 + L ≤ 4611686018427387904 := by omega
      obtain ⟨hq1, hq2⟩ := hq0
      have hsown : OwnI B 2 1 wr s (rows[k]).2 := hown.2.2.2.own k s _ hs hmx
      obtain ⟨sa, sn, sc, rfl⟩ := hsown.shape
      obtain ⟨a', len', cap', hv, hcl, hc1, hc2, hcase⟩ := Own.open_ hown.2.2.1
      injection hv with hv1 hv2 hv3
      subst hv1; subst hv2; subst hv3
      have hnl := ncells_len hown.1 (by rw [hown.2.1])
      rcases hcase with hz | ⟨g, cur, rfl, hBg, hblk, hcsz, hpre⟩
      · omega
      · have hcell_s : cur[k]? = some (.slice sa sn sc) := by
          have h5 := ncells_sl hown.1 hmx hs
          rw [← h5]
          have := mul_lt_of hlt 1
          simpa using hpre k (by omega)
        have HC := Lib.hid hc1
        have d0 : wr.cell? ⟨g, k, none⟩ = some (.slice sa sn sc) := by rw [hblk.cell]; exact hcell_s
        have HQ := Lib.hid hq'; have HT := Lib.hid ht1; have HH := Lib.hid hown; have HST := Lib.hid hstep; have HMX := Lib.hid hmx; have HSS := Lib.hid hs; have HLR := Lib.hid hLr; have HCS := Lib.hid hcsz; have HPRE := Lib.hid hpre
        clear hm0 hq' ht1 ht2 hr hml hmx hs hstep hown hcell_s hcl hnl hLr hcsz hpre
        go_wp2_with (first | (go_at_call 31; refine (markInt64S_c _ B _ _ L (by have := HLR.out; omega) _ hsown (by omega) (by omega)).mono ?_; rintro e w1 ⟨rfl, hx, hg⟩))
        go_roundw
        case rel =>
          have h3 := HT.out; have h4 := HQ.out
          have hO : OwnNs B 52 2 0 w1 (.slice (some ⟨g, 0, none⟩) rows.length ca) ((marks 0 q rows).take (k + 1) ++ rows.drop (k + 1)) ss := by
            rw [HST.out]
            have h6 := HH.out.set_row HMX.out HSS.out hx (xs := run (q') L) (by simpa using hg)
            have h7 : ((rows[k]).1 : List Int) = [] := List.eq_nil_of_length_eq_zero (by simpa using HO.out.1 _ (List.getElem_mem hlt))
            rw [h7] at h6
            simpa [run] using h6
          exact ⟨k + 1, by omega, by go_num, ⟨_, by omega, rfl⟩, (he.trans (hx.more (fun x hx' => feet_sub HSS.out hx'))), hO⟩
        case measure => simp [intOf]; omega
    · obtain rfl : k = rows.length := by omega
      have HQ := Lib.hid hq'
      clear hq'
      go_wp2
      go_ret
      have h4 := HQ.out
      rw [List.take_length] at h4
      refine ⟨congrArg (fun z => Ending.returned (.int .i64 z)) h4, he, ?_⟩
      rw [List.drop_length, List.append_nil] at hown
      have := length_marks 0 q rows
      rwa [List.take_of_length_le (by omega)] at hown











end Go.Proofs.Ytemhbbpbmgpcaaa
