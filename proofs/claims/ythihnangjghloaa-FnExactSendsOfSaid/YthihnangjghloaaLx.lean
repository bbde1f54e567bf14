/- Contracts and plain laws: HelpM KM HelpB KSc AH AKM Num3 SN0 OwR SN1 SN2. -/
import Derived.Test.YthihnangjghloaaLb
import Derived.Test.YthihnangjghloaaLe
import Derived.Test.YthihnangjghloaaLa
import Derived.Test.YthihnangjghloaaLw
import Derived.Test.YthihnangjghloaaLf
import Derived.Test.YthihnangjghloaaLj
import Derived.Test.YthihnangjghloaaLo
import Derived.Test.YthihnangjghloaaLd
set_option linter.unusedSimpArgs false
set_option linter.unusedVariables false
-- Lists of messages: the helpers.
namespace Go.Proofs.Ythihnangjghloaa
open Go.RowKit Go.G8

set_option maxHeartbeats 1600000 in
theorem eqMsgS_c (w : World) (va vb : Value) (rows : List NRow) (ha : Nest 2 w va rows) (hb : Nest 2 w vb rows) :
  Calls Try.prog 26 #[va, vb] w (RetV w (.bool true)) := by
 have hwid := ha.1
 obtain ⟨a, ca, rfl, hca, hm, ha'⟩ := ha.open_
 obtain ⟨b, cb, rfl, _, _, hb'⟩ := hb.open_
 have HA := Lib.hid ha'; have HB := Lib.hid hb'; have HW := Lib.hid hwid
 clear ha' hb' ha hb hwid
 unfold maxLen at hm
 go_enter Try.func26, Try.ntmps26
 go_wp2
 go_loopw [5] (fun i wr => ∃ k : Nat, k ≤ rows.length ∧ i = .int .i64 k ∧ Ext w wr) (fun i _ => rows.length - (intOf i).toNat)
 case atStart => exact ⟨0, Nat.zero_le _, rfl, Ext.refl _⟩
 case round =>
  obtain ⟨k, hk, rfl, he⟩ := hrel
  by_cases hlt : k < rows.length
  ·
   obtain ⟨r, b1, o1, s, hr, rfl, _, hci, hcs, hin0⟩ := HA.out k hlt
   obtain ⟨r2, b2, o2, t, hr2, rfl, _, hci2, hcs2, hin2⟩ := HB.out k hlt
   obtain rfl : r = r2 := by rw [hr] at hr2; exact Option.some.inj hr2
   have hrw := HW.out r (List.mem_of_getElem? hr)
   obtain ⟨x0, hx0⟩ : ∃ u, r.1[0]? = some u := ⟨_, List.getElem?_eq_getElem (by rw [hrw]; decide)⟩
   have d0 := he.cell (hci 0 _ hx0)
   obtain ⟨x1, hx1⟩ : ∃ u, r.1[1]? = some u := ⟨_, List.getElem?_eq_getElem (by rw [hrw]; decide)⟩
   have d1 := he.cell (hci 1 _ hx1)
   have d2 := he.cell hcs
   simp only [Nat.add_zero, Nat.reduceAdd] at d0 d1 d2
   have d02 := he.cell (hci2 0 _ hx0)
   have d12 := he.cell (hci2 1 _ hx1)
   have d22 := he.cell hcs2
   simp only [Nat.add_zero, Nat.reduceAdd] at d02 d12 d22
   have g1 := hin0.ext he; have g2 := hin2.ext he
   obtain ⟨sa, sn, sc, rfl⟩ := g1.shape; obtain ⟨ta, tn, tc, rfl⟩ := g2.shape
   clear hci hcs hci2 hcs2 hrw hr hr2 hin0 hin2 hx0 hx1
   go_wp2
   go_region_held3 (fun w' => Ext wr w' ∧ w'.cell? ⟨b1, o1 + k * 3, none⟩ = some (.int .i64 x0) ∧ w'.cell? ⟨b1, o1 + k * 3 + 1, none⟩ = some (.int .i64 x1) ∧ w'.cell? ⟨b1, o1 + k * 3 + 2, none⟩ = some (.slice sa sn sc) ∧ w'.cell? ⟨b2, o2 + k * 3, none⟩ = some (.int .i64 x0) ∧ w'.cell? ⟨b2, o2 + k * 3 + 1, none⟩ = some (.int .i64 x1) ∧ w'.cell? ⟨b2, o2 + k * 3 + 2, none⟩ = some (.slice ta tn tc)) (first | exact ⟨Ext.drew (Ext.refl _), d0, d1, d2, d02, d12, d22⟩ | exact held_of (S := fun w' => Ext wr w' ∧ w'.cell? ⟨b1, o1 + k * 3, none⟩ = some (.int .i64 x0) ∧ w'.cell? ⟨b1, o1 + k * 3 + 1, none⟩ = some (.int .i64 x1) ∧ w'.cell? ⟨b1, o1 + k * 3 + 2, none⟩ = some (.slice sa sn sc) ∧ w'.cell? ⟨b2, o2 + k * 3, none⟩ = some (.int .i64 x0) ∧ w'.cell? ⟨b2, o2 + k * 3 + 1, none⟩ = some (.int .i64 x1) ∧ w'.cell? ⟨b2, o2 + k * 3 + 2, none⟩ = some (.slice ta tn tc)) (by assumption) hx (fun a b h x => ⟨h.1.trans x, (h.1.trans x).cell d0, (h.1.trans x).cell d1, (h.1.trans x).cell d2, (h.1.trans x).cell d02, (h.1.trans x).cell d12, (h.1.trans x).cell d22⟩)) ((go_at_call 71; refine (eqMsg_c _ _ _ _ _ r.2 (g1.ext (And.left ‹_›)) (g2.ext (And.left ‹_›))).mono ?_; rintro e w' ⟨rfl, hx⟩))
   go_wp2
   go_roundw
   case rel => exact ⟨k + 1, by omega, by go_num, he.trans (And.left ‹_›)⟩
   case measure => simp [intOf]; omega
  ·
   go_wp2
   go_ret
   exact ⟨rfl, he⟩
set_option maxRecDepth 100000 in
set_option maxHeartbeats 1600000 in
theorem heldMsgS_c (w : World) (v : Value) (rows : List NRow) (q : Int) (h : Nest 2 w v (marks 2 q rows)) (h0 : 0 ≤ q) (h1 : q + (tot 2 rows : Nat) ≤ 4611686018427387904) :
  Calls Try.prog 28 #[v, .int .i64 q] w (RetV w (.int .i64 (q + (tot 2 rows : Nat)))) := by
 obtain ⟨a, ca, rfl, hca, hm, ha⟩ := h.open_
 rw [length_marks] at hca ha ⊢
 have HA := Lib.hid ha
 clear ha h
 unfold maxLen at hm
 go_enter Try.func28, Try.ntmps28
 go_wp2
 go_loopw [1, 5] (fun kk i wr => ∃ k : Nat, k ≤ rows.length ∧ i = .int .i64 k ∧ (∃ q' : Int, q' = q + (tot 2 (rows.take k) : Nat) ∧ kk = .int .i64 q') ∧ Ext w wr) (fun _ i _ => rows.length - (intOf i).toNat)
 case atStart => exact ⟨0, Nat.zero_le _, rfl, ⟨q, by simp [tot], rfl⟩, Ext.refl _⟩
 case round =>
  obtain ⟨k, hk, rfl, ⟨q', hq', rfl⟩, he⟩ := hrel
  by_cases hlt : k < rows.length
  ·
   obtain ⟨r0, b1, o1, s, hr0, rfl, _, hci, hcs, hin0⟩ := HA.out k hlt
   have hr : rows[k]? = some rows[k] := List.getElem?_eq_getElem hlt
   obtain ⟨L, hLr⟩ : ∃ L, L = (rows[k]).2.length := ⟨_, rfl⟩
   have hm0 := marks_get (n := 2) (q := q) hr
   rw [← hq', ← hLr] at hm0
   obtain rfl : r0 = (run q' 2, run (q' + (2 : Nat)) L) := by rw [hr0] at hm0; exact Option.some.inj hm0
   have ht1 := tot_take (n := 2) hr
   have ht2 := tot_le (n := 2) rows (k + 1)
   rw [← hLr] at ht1
   have HQ := Lib.hid hq'; have HT := Lib.hid ht1
   have hq0 : 0 ≤ q' ∧ q' + 2 + L ≤ 4611686018427387904 := by omega
   obtain ⟨hq1, hq2⟩ := hq0
   have hx0 : (run q' 2)[0]? = some (q' + 0) := by rw [run_get _ _ _ (by omega)]; rfl
   have d0 := he.cell (hci 0 _ hx0)
   have hx1 : (run q' 2)[1]? = some (q' + 1) := by rw [run_get _ _ _ (by omega)]; rfl
   have d1 := he.cell (hci 1 _ hx1)
   have d2 := he.cell hcs
   simp only [Nat.add_zero, Nat.reduceAdd, Int.add_zero] at d0 d1 d2
   have hin : Ints 1 wr s (run (q' + 1 + 1) L) := by
    have h9 := hin0.ext he
    rw [show q' + 1 + 1 = q' + (2 : Nat) from by omega]
    exact h9
   have hw1 : IntKind.i64.wrap (q' + 1) = q' + 1 := by rw [IntKind.wrap_i64] <;> omega
   have hw2 : IntKind.i64.wrap (q' + 1 + 1) = q' + 1 + 1 := by rw [IntKind.wrap_i64] <;> omega
   obtain ⟨sa, sn, sc, rfl⟩ := hin.shape
   clear hci hcs hr0 hm0 hin0 hq' ht1 ht2 hLr hr hx0 hx1
   have hneg : decide (q' + 1 + 1 + (L : Int) < 0) = false := by simp; omega
   go_wp2_with (first | (go_at_call 73; refine (heldInt64S_c _ _ L (q' + 1 + 1) (hin.ext (by (first | exact extT | omega))) (by omega) (by omega)).mono ?_; rintro e w1 ⟨rfl, hx⟩))
   go_roundw
   case rel =>
    have h3 := HT.out; have h4 := HQ.out
    exact ⟨k + 1, by omega, by go_num, ⟨_, by omega, rfl⟩, he.trans (by (first | exact extT | omega))⟩
   case measure => simp [intOf]; omega
  ·
   obtain rfl : k = rows.length := by omega
   have HQ := Lib.hid hq'
   clear hq'
   go_wp2
   go_ret
   have h4 := HQ.out
   rw [List.take_length] at h4
   exact ⟨congrArg (fun z => Ending.returned (.int .i64 z)) h4, he⟩
set_option maxRecDepth 100000 in
set_option maxHeartbeats 1600000 in
theorem markMsgS_c (w : World) (B : Nat) (v : Value) (rows : List NRow) (ss : List Value) (q : Int) (h : OwnNs B 118 2 2 w v rows ss) (h0 : 0 ≤ q) (h1 : q + (tot 2 rows : Nat) ≤ 4611686018427387904) :
  Calls Try.prog 27 #[v, .int .i64 q] w (RetM w (feet (v :: ss)) (.int .i64 (q + (tot 2 rows : Nat))) fun w' => OwnNs B 118 2 2 w' v (marks 2 q rows) ss) := by
 obtain ⟨a, len, ca, rfl, hlen, hca, hm⟩ : ∃ a len ca, v = .slice a len ca ∧ rows.length = len ∧ len ≤ ca ∧ ca ≤ maxLen := by
  obtain ⟨a, len, cap, h2, h3, h4, h5, _⟩ := Own.open_ h.2.2.1
  rw [ncells_len h.1 h.2.1] at h3
  exact ⟨a, len, cap, h2, Nat.eq_of_mul_eq_mul_right (by omega) h3, h4, h5⟩
 subst hlen
 have hssl := h.2.1
 have HO := Lib.hid h
 clear h
 unfold maxLen at hm
 go_enter Try.func27, Try.ntmps27
 go_wp2
 go_loopw [1, 5] (fun kk i wr => ∃ k : Nat, k ≤ rows.length ∧ i = .int .i64 k ∧ (∃ q' : Int, q' = q + (tot 2 (rows.take k) : Nat) ∧ kk = .int .i64 q') ∧ Upd w wr (feet (.slice a rows.length ca :: ss)) ∧ OwnNs B 118 2 2 wr (.slice a rows.length ca) ((marks 2 q rows).take k ++ rows.drop k) ss) (fun _ i _ => rows.length - (intOf i).toNat)
 case atStart => exact ⟨0, Nat.zero_le _, rfl, ⟨q, by simp [tot], rfl⟩, Upd.refl _ _, by simpa using HO.out⟩
 case round =>
  obtain ⟨k, hk, rfl, ⟨q', hq', rfl⟩, he, hown⟩ := hrel
  by_cases hlt : k < rows.length
  ·
   have hr : rows[k]? = some rows[k] := List.getElem?_eq_getElem hlt
   have hml := length_marks 2 q rows
   have hmx := mix_get hml hr
   obtain ⟨s, hs⟩ : ∃ s, ss[k]? = some s := ⟨_, List.getElem?_eq_getElem (by omega)⟩
   obtain ⟨L, hLr⟩ : ∃ L, L = (rows[k]).2.length := ⟨_, rfl⟩
   have hm0 := marks_get (n := 2) (q := q) hr
   rw [← hq', ← hLr] at hm0
   have hstep := mix_step hml hm0
   have ht1 := tot_take (n := 2) hr
   have ht2 := tot_le (n := 2) rows (k + 1)
   rw [← hLr] at ht1
   have hq0 : 0 ≤ q' ∧ q' + 2 + L ≤ 4611686018427387904 := by omega
   obtain ⟨hq1, hq2⟩ := hq0
   have hsown : OwnI B 2 1 wr s (rows[k]).2 := hown.2.2.2.own k s _ hs hmx
   obtain ⟨sa, sn, sc, rfl⟩ := hsown.shape
   obtain ⟨a', len', cap', hv, hcl, hc1, hc2, hcase⟩ := Own.open_ hown.2.2.1
   injection hv with hv1 hv2 hv3
   subst hv1; subst hv2; subst hv3
   have hnl := ncells_len hown.1 (by rw [hown.2.1])
   rcases hcase with hz | ⟨g, cur, rfl, hBg, hblk, hcsz, hpre⟩
   ·
    omega
   ·
    have hcell_s : cur[k * 3 + 2]? = some (.slice sa sn sc) := by
     have h5 := ncells_sl hown.1 hmx hs
     rw [← h5]
     have := mul_lt_of hlt 3
     exact hpre _ (by omega)
    have HC := Lib.hid hc1
    have d2 : wr.cell? ⟨g, k * 3 + 2, none⟩ = some (.slice sa sn sc) := by rw [hblk.cell]; exact hcell_s
    obtain ⟨z0, g0⟩ : ∃ z, wr.cell? ⟨g, k * 3, none⟩ = some z := ⟨_, by rw [hblk.cell]; exact Array.getElem?_eq_getElem (by have := HC.out; have := mul_lt_of hlt 3; have := hcsz; omega)⟩
    have f0 := hblk.frozen (k * 3)
    obtain ⟨z1, g1⟩ : ∃ z, wr.cell? ⟨g, k * 3 + 1, none⟩ = some z := ⟨_, by rw [hblk.cell]; exact Array.getElem?_eq_getElem (by have := HC.out; have := mul_lt_of hlt 3; have := hcsz; omega)⟩
    have f1 := hblk.frozen (k * 3 + 1)
    have HQ := Lib.hid hq'; have HT := Lib.hid ht1; have HH := Lib.hid hown; have HST := Lib.hid hstep; have HMX := Lib.hid hmx; have HSS := Lib.hid hs; have HLR := Lib.hid hLr; have HCS := Lib.hid hcsz; have HPRE := Lib.hid hpre
    clear hm0 hq' ht1 ht2 hr hml hmx hs hstep hown hcell_s hcl hnl hLr hcsz hpre
    have o0 := HH.out; have m0 : ((marks 2 q rows).take k ++ rows.drop k)[k]? = some ((rows[k]).1, (rows[k]).2) := HMX.out
    have hkl : k < ((marks 2 q rows).take k ++ rows.drop k).length := (List.getElem?_eq_some_iff.1 m0).1
    have o1 : OwnNs B 118 2 2 (wr.setCell ⟨g, k * 3, none⟩ (.int .i64 q')) (.slice (some ⟨g, 0, none⟩) rows.length ca) (((marks 2 q rows).take k ++ rows.drop k).set k (((rows[k]).1.set 0 (q')), (rows[k]).2)) ss := by have h := o0.set_int m0 (j := 0) (by omega) (q'); simpa [List.set_set] using h
    have m1 : (((marks 2 q rows).take k ++ rows.drop k).set k (((rows[k]).1.set 0 (q')), (rows[k]).2))[k]? = some (((rows[k]).1.set 0 (q')), (rows[k]).2) := by rw [List.getElem?_set_self hkl]
    have o2 : OwnNs B 118 2 2 ((wr.setCell ⟨g, k * 3, none⟩ (.int .i64 q')).setCell ⟨g, k * 3 + 1, none⟩ (.int .i64 (q' + 1))) (.slice (some ⟨g, 0, none⟩) rows.length ca) (((marks 2 q rows).take k ++ rows.drop k).set k ((((rows[k]).1.set 0 (q')).set 1 (q' + 1)), (rows[k]).2)) ss := by have h := o1.set_int m1 (j := 1) (by omega) (q' + 1); simpa [List.set_set] using h
    have m2 : (((marks 2 q rows).take k ++ rows.drop k).set k ((((rows[k]).1.set 0 (q')).set 1 (q' + 1)), (rows[k]).2))[k]? = some ((((rows[k]).1.set 0 (q')).set 1 (q' + 1)), (rows[k]).2) := by rw [List.getElem?_set_self hkl]
    have hso : OwnI B 2 1 ((wr.setCell ⟨g, k * 3, none⟩ (.int .i64 q')).setCell ⟨g, k * 3 + 1, none⟩ (.int .i64 (q' + 1))) (.slice sa sn sc) (rows[k]).2 := o2.2.2.2.own k _ ((((rows[k]).1.set 0 (q')).set 1 (q' + 1)), (rows[k]).2) HSS.out m2
    have hup : Upd wr ((wr.setCell ⟨g, k * 3, none⟩ (.int .i64 q')).setCell ⟨g, k * 3 + 1, none⟩ (.int .i64 (q' + 1))) (feet ((.slice (some ⟨g, 0, none⟩) rows.length ca) :: ss)) := (((((Upd.refl wr _)).setCell (by simp [feet, Value.ownBlock]) _)).setCell (by simp [feet, Value.ownBlock]) _)
    have O := Lib.hid o2; have MM := Lib.hid m2; have HSO := Lib.hid hso; have HUP := Lib.hid hup; clear o0 m0 o1 m1 o2 m2 hso hup hsown
    go_wp2_with (first | (go_at_call 72; refine (markInt64S_c _ B _ _ L (by have := HLR.out; omega) _ HSO.out (by omega) (by omega)).mono ?_; rintro e w1 ⟨rfl, hx, hg⟩))
    go_roundw
    case rel =>
     have h3 := HT.out; have h4 := HQ.out
     have hO : OwnNs B 118 2 2 w1 (.slice (some ⟨g, 0, none⟩) rows.length ca) ((marks 2 q rows).take (k + 1) ++ rows.drop (k + 1)) ss := by
      rw [HST.out]
      have h6 := O.out.set_row MM.out HSS.out hx (xs := run (q' + 2) L) (by rw [show q' + 2 = q' + 1 + 1 from by omega]; exact hg)
      have h7 : ((rows[k]).1 : List Int).length = 2 := HO.out.1 _ (List.getElem_mem hlt)
      obtain ⟨y0, y1, h8⟩ : ∃ y0 y1, (rows[k]).1 = [y0, y1] := by match (rows[k]).1, h7 with | [y0, y1], _ => exact ⟨y0, y1, rfl⟩
      rw [h8] at h6
      simpa [run, List.set_set, Int.add_assoc] using h6
     exact ⟨k + 1, by omega, by go_num, ⟨_, by omega, rfl⟩, (he.trans (HUP.out.trans (hx.more (fun x hx' => feet_sub HSS.out hx')))), hO⟩
    case measure => simp [intOf]; omega
  ·
   obtain rfl : k = rows.length := by omega
   have HQ := Lib.hid hq'
   clear hq'
   go_wp2
   go_ret
   have h4 := HQ.out
   rw [List.take_length] at h4
   refine ⟨congrArg (fun z => Ending.returned (.int .i64 z)) h4, he, ?_⟩
   rw [List.drop_length, List.append_nil] at hown
   have := length_marks 2 q rows
   rwa [List.take_of_length_le (by omega)] at hown

end Go.Proofs.Ythihnangjghloaa

-- Lists of messages as one thing.
set_option linter.unusedSimpArgs false
set_option linter.unusedVariables false
namespace Go.Proofs.Ythihnangjghloaa
open Go.RowKit Go.G8

end Go.Proofs.Ythihnangjghloaa
namespace Go.G8
open Go.RowKit
theorem OwnNs.lit1 {B B2 : Nat} {w : World} {e e1 : TypeId} {n : Nat} {r : NRow} {t : Value} (hr : r.1.length = n) (ht : OwnI B2 e1 1 w t r.2) (hB : B ≤ B2) (hw : B ≤ w.heap.size) (cs : Array Value) (hcs : cs = (ncell (r, t)).toArray) : OwnNs B e e1 n (w.alloc (.cells cs e)) (.slice (some ⟨w.heap.size, 0, none⟩) 1 1) [r] [t] := by
 subst hcs
 have hcl : (ncell (r, t)).length = n + 1 := by simp [ncell, hr]
 have hnc : ncells [r] [t] = ncell (r, t) := by simp [ncells]
 have hlt : ∀ k, k ∈ feet [t] → k < w.heap.size := by
  intro k hk
  simp only [feet, List.mem_filterMap, List.mem_singleton, exists_eq_left] at hk
  exact (Own.lt ht hk).2
 refine ⟨by intro x hx; simp at hx; subst hx; exact hr, rfl, ?_, ?_⟩
 ·
  rw [hnc]
  refine Own.of_blk (cap := 1) (Blk.new w _ _) hw (by simp [hcl]) (by simp [hcl]) (Nat.le_refl _) (by decide) ?_
  intro j hj
  simp
 ·
  refine ⟨fun i s q h1 h2 => ?_, fun i j s u k h1 h2 h3 => ?_, fun i s k h1 h2 h3 => ?_⟩
  ·
   cases i with
   | zero => simp at h1 h2; subst h1; subst h2; exact (Own.ext ht ((Ext.refl _).alloc _)).mono hB
   | succ i => simp at h1
  ·
   cases j with
   | zero => omega
   | succ j => simp at h3
  ·
   cases i with
   | zero =>
    simp at h1; subst h1
    have := hlt k h2
    simp [feet, Value.ownBlock] at h3
    omega
   | succ i => simp at h1
theorem OwnNs.lit0 (w : World) (e e1 : TypeId) (n : Nat) : OwnNs w.heap.size e e1 n (w.alloc (.cells #[] e)) (.slice (some ⟨w.heap.size, 0, none⟩) 0 0) [] [] :=
 ⟨by intro x hx; simp at hx, rfl, Own.of_blk (cap := 0) (Blk.new w e #[]) (Nat.le_refl _) (by simp) (by simp [ncells]) (Nat.le_refl _) (by decide) (by simpa using Pre.zero _ _), fun i s r h1 h2 => by simp at h1, fun i j s t k h1 h2 h3 => by simp at h3, fun i s k h1 => by simp at h1⟩
end Go.G8
namespace Go.Proofs.Ythihnangjghloaa
open Go.RowKit Go.G8
def RdMsgs (w : World) (v : Value) (l : List NRow) : Prop := Nest 2 w v l
def OwMsgs (B : Nat) (w : World) (v : Value) (l : List NRow) (F : List Nat) : Prop := ∃ ss : List Value, OwnNs B 118 2 2 w v l ss ∧ F = feet (v :: ss)
def numMsgs (l : List NRow) : Nat := tot 2 l
def MkMsgs (B : Nat) (w : World) (v : Value) (l : List NRow) (F : List Nat) (q : Int) : Prop := ∃ ss : List Value, OwnNs B 118 2 2 w v (marks 2 q l) ss ∧ F = feet (v :: ss)
section
variable {B B' : Nat} {w w' : World} {v : Value} {l : List NRow} {F : List Nat} {q : Int}
theorem RdMsgs.shape (h : RdMsgs w v l) : ∃ a n k, v = .slice a n k := Nest.shape h
theorem RdMsgs.ext (h : RdMsgs w v l) (x : Ext w w') : RdMsgs w' v l := Nest.ext h x
theorem OwMsgs.of (h : OwnNest B 118 2 2 w v l) : ∃ F, OwMsgs B w v l F := let ⟨ss, h⟩ := h; ⟨_, ss, h, rfl⟩
theorem OwMsgs.rd (h : OwMsgs B w v l F) : RdMsgs w v l := let ⟨_, h, _⟩ := h; h.nest
theorem OwMsgs.ext (h : OwMsgs B w v l F) (x : Ext w w') : OwMsgs B w' v l F := let ⟨s, h, e⟩ := h; ⟨s, h.ext x, e⟩
theorem OwMsgs.keep (h : OwMsgs B w v l F) (x : Chg B w w') : OwMsgs B w' v l F := let ⟨s, h, e⟩ := h; ⟨s, h.keep x, e⟩
theorem OwMsgs.mono (h : OwMsgs B w v l F) (x : B' ≤ B) : OwMsgs B' w v l F := let ⟨s, h, e⟩ := h; ⟨s, h.mono x, e⟩
theorem OwMsgs.upd (h : OwMsgs B w v l F) {fs : List Nat} (x : Upd w w' fs) (hn : ∀ k, k ∈ F → k ∈ fs → False) : OwMsgs B w' v l F := by
 obtain ⟨s, h, rfl⟩ := h
 exact ⟨s, h.upd x hn, rfl⟩
theorem OwMsgs.low (h : OwMsgs B w v l F) : ∀ k, k ∈ F → B ≤ k ∧ k < w.heap.size := by
 obtain ⟨s, h, rfl⟩ := h
 exact h.foot
theorem MkMsgs.ext (h : MkMsgs B w v l F q) (x : Ext w w') : MkMsgs B w' v l F q := let ⟨s, h, e⟩ := h; ⟨s, h.ext x, e⟩
theorem eq_Msgs {u : Value} (h : RdMsgs w v l) (k : RdMsgs w u l) : Calls Try.prog 26 #[v, u] w (RetV w (.bool true)) := eqMsgS_c w v u _ h k
theorem mark_Msgs (h : OwMsgs B w v l F) (hq0 : 0 ≤ q) (hq1 : q + (numMsgs l : Nat) ≤ 4611686018427387904) :
  Calls Try.prog 27 #[v, .int .i64 q] w (RetM w F (.int .i64 (q + (numMsgs l : Nat))) fun w' => MkMsgs B w' v l F q) := by
 obtain ⟨s, h, rfl⟩ := h
 refine (markMsgS_c w B v _ s q h hq0 hq1).mono ?_
 rintro e w' ⟨rfl, hx, g⟩
 exact ⟨rfl, hx, s, g, rfl⟩
theorem held_Msgs (h : MkMsgs B w v l F q) (hq0 : 0 ≤ q) (hq1 : q + (numMsgs l : Nat) ≤ 4611686018427387904) :
  Calls Try.prog 28 #[v, .int .i64 q] w (RetV w (.int .i64 (q + (numMsgs l : Nat)))) := by
 obtain ⟨s, h, rfl⟩ := h
 exact heldMsgS_c w v _ q h.nest hq0 hq1
end

end Go.Proofs.Ythihnangjghloaa

-- HelpB: contracts of the statements' helper functions.
namespace Go.Proofs.Ythihnangjghloaa
open Go.RowKit Go.G8

set_option maxHeartbeats 800000 in
theorem toJobs_c (w : World) (c0 : Int) (c1 : Int) (c2 : Int) (c3 : Int) (c4 : Int) (s5 : Value) (d5 : List Int) (L5 : Nat) (hL5 : d5.length = L5 * 2) (h5 : Ints 2 w s5 d5) (hs5 : L5 ≤ 1048576) :
  Calls Try.prog 103 #[.agg #[.int .i64 c0, .int .i64 c1, .int .i64 c2, .int .i64 c3, .int .i64 c4, s5]] w (Ret w fun v w' => ∃ t5 : Value, v = .agg #[.int .i64 c0, .int .i64 c1, .int .i64 c2, .int .i64 c3, .int .i64 c4, t5] ∧ OwnI w.heap.size 132 2 w' t5 d5) := by
 go_enter Try.func103, Try.ntmps103
 go_wp2_with (first | (go_at_call 136; refine (toDueS_c _ s5 d5 L5 hL5 (h5.ext (by (first | exact extT | omega))) hs5).mono ?_; rintro e w1 ⟨t5, rfl, hx1, g5⟩; obtain ⟨ta5, tn5, tc5, rfl⟩ := g5.shape; have hz1 := hx1.size; obtain ⟨hc1, hf1⟩ := hx1.cells; (repeat (first | simp only [World.size_alloc] at hz1 hc1 hf1 g5 | simp only [World.size_setCell] at hz1 hc1 hf1 g5)); have hy1_0 : w.heap.size < w1.heap.size := (by omega); have hy1_1 : w.heap.size + 1 < w1.heap.size := (by omega); have hy1_2 : w.heap.size + 1 + 1 < w1.heap.size := (by omega)))
 refine bodyPost_ret (v := .agg #[.int .i64 c0, .int .i64 c1, .int .i64 c2, .int .i64 c3, .int .i64 c4, .slice ta5 tn5 tc5]) ?_ rfl ?_
 ·
  simp [results, Try.results103, go_sem, *]
 ·
  refine ⟨_, rfl, ?_, _, rfl, (g5.keep ?_).mono ?_⟩
  all_goals clear hc1 hf1
  ·
   (first | exact extT | omega)
  ·
   repeat' (first | (with_reducible exact Chg.refl _ _) | (with_reducible refine Chg.drewN ?_ _) | (with_reducible refine Chg.drew ?_) | (with_reducible refine Chg.alloc ?_ _) | (with_reducible refine Chg.setLow ?_ ?_ _) | (with_reducible refine Chg.ext ?_ (by assumption)) | omega)
  ·
   omega

set_option maxHeartbeats 800000 in
theorem szJobs_c (w : World) (c0 : Int) (c1 : Int) (c2 : Int) (c3 : Int) (c4 : Int) (s5 : Value) (d5 : List Int) (L5 : Nat) (hL5 : d5.length = L5 * 2) (left : Int) (h5 : Ints 2 w s5 d5) (h0 : 0 ≤ left) (h1 : left ≤ 1048576) :
  Calls Try.prog 98 #[.agg #[.int .i64 c0, .int .i64 c1, .int .i64 c2, .int .i64 c3, .int .i64 c4, s5], .int .i64 left] w (Ret w fun v' _ => SzR left (L5) v') := by
 go_enter Try.func98, Try.ntmps98
 go_wp2_with (first | (go_at_call 131; refine (szDueS_c _ s5 d5 L5 hL5 _ (h5.ext (by (first | exact extT | omega))) (by omega) (by omega)).mono ?_; rintro e w1 ⟨v1, rfl, hx1, hv⟩; have hz1 := hx1.size; obtain ⟨hc1, hf1⟩ := hx1.cells; (repeat (first | simp only [World.size_alloc] at hz1 hc1 hf1 | simp only [World.size_setCell] at hz1 hc1 hf1)); have hy1_0 : w.heap.size < w1.heap.size := (by omega); rcases hv with ⟨rfl, q1⟩ | ⟨rfl, q1⟩))
 all_goals
  go_ret
  refine ⟨_, rfl, ?_, ?_⟩
  ·
   (first | exact extT | omega)
  ·
   first | exact .inl ⟨rfl, by omega⟩ | (refine .inr ⟨congrArg (Value.int .i64) ?_, ?_⟩ <;> omega)

set_option maxHeartbeats 800000 in
theorem eqJobs_c (w : World) (c0 : Int) (c1 : Int) (c2 : Int) (c3 : Int) (c4 : Int) (s5 : Value) (t5 : Value) (d5 : List Int) (h5 : Ints 2 w s5 d5) (k5 : Ints 2 w t5 d5) :
  Calls Try.prog 105 #[.agg #[.int .i64 c0, .int .i64 c1, .int .i64 c2, .int .i64 c3, .int .i64 c4, s5], .agg #[.int .i64 c0, .int .i64 c1, .int .i64 c2, .int .i64 c3, .int .i64 c4, t5]] w (RetV w (.bool true)) := by
 go_enter Try.func105, Try.ntmps105
 go_wp2_with (first | (go_at_call 139; refine (eqDueS_c _ s5 t5 d5 (h5.ext (by (first | exact extT | omega))) (k5.ext (by (first | exact extT | omega)))).mono ?_; rintro e w1 ⟨rfl, hx1⟩; have hz1 := hx1.size; obtain ⟨hc1, hf1⟩ := hx1.cells; (repeat (first | simp only [World.size_alloc] at hz1 hc1 hf1 | simp only [World.size_setCell] at hz1 hc1 hf1)); have hy1_0 : w.heap.size < w1.heap.size := (by omega); have hy1_1 : w.heap.size + 1 < w1.heap.size := (by omega)))
 go_ret
 refine ⟨rfl, ?_⟩
 (first | exact extT | omega)

set_option maxHeartbeats 800000 in
theorem markJobs_c (w : World) (B : Nat) (c0 : Int) (c1 : Int) (c2 : Int) (c3 : Int) (c4 : Int) (s5 : Value) (d5 : List Int) (L5 : Nat) (hL5 : d5.length = L5 * 2) (q : Int) (h5 : OwnI B 132 2 w s5 d5) (h0 : 0 ≤ q) (h1 : q + (L5 * 2 : Nat) ≤ 4611686018427387904) :
  Calls Try.prog 106 #[.agg #[.int .i64 c0, .int .i64 c1, .int .i64 c2, .int .i64 c3, .int .i64 c4, s5], .int .i64 q] w (RetM w (feet [s5]) (.int .i64 (q + (L5 * 2 : Nat))) fun w' => OwnI B 132 2 w' s5 (run q (L5 * 2))) := by
 go_enter Try.func106, Try.ntmps106
 go_wp2_with (first | (go_at_call 140; refine (markDueS_c _ B s5 d5 L5 hL5 q (h5.ext (by (first | exact extT | omega))) h0 h1).mono ?_; rintro e w1 ⟨rfl, hx1, g1⟩))
 go_ret
 exact ⟨rfl, (Ext.upd ((Ext.refl w).alloc _) _).trans hx1, g1⟩

set_option maxHeartbeats 800000 in
theorem toView_c (w : World) (c0 : Int) (c1 : Int) (c2 : Int) (c3 : Int) (c4 : Int) (s5 : Value) (d5 : List Int) (L5 : Nat) (hL5 : d5.length = L5 * 2) (h5 : Ints 2 w s5 d5) (hs5 : L5 ≤ 1048576) :
  Calls Try.prog 56 #[.agg #[.int .i64 c0, .int .i64 c1, .int .i64 c2, .int .i64 c3, .int .i64 c4, s5]] w (Ret w fun v w' => ∃ t5 : Value, v = .agg #[.int .i64 c0, .int .i64 c1, .int .i64 c2, .int .i64 c3, .int .i64 c4, t5] ∧ OwnI w.heap.size 132 2 w' t5 d5) := by
 go_enter Try.func56, Try.ntmps56
 go_wp2_with (first | (go_at_call 103; refine (toJobs_c _ c0 c1 c2 c3 c4 s5 d5 L5 hL5 (h5.ext (by (first | exact extT | omega))) hs5).mono ?_; rintro e w1 ⟨_, rfl, hx1, t5, rfl, g5⟩; obtain ⟨ta5, tn5, tc5, rfl⟩ := g5.shape; have hz1 := hx1.size; obtain ⟨hc1, hf1⟩ := hx1.cells; (repeat (first | simp only [World.size_alloc] at hz1 hc1 hf1 g5 | simp only [World.size_setCell] at hz1 hc1 hf1 g5)); have hy1_0 : w.heap.size < w1.heap.size := (by omega); have hy1_1 : w.heap.size + 1 < w1.heap.size := (by omega); have hy1_2 : w.heap.size + 1 + 1 < w1.heap.size := (by omega)))
 refine bodyPost_ret (v := .agg #[.int .i64 c0, .int .i64 c1, .int .i64 c2, .int .i64 c3, .int .i64 c4, .slice ta5 tn5 tc5]) ?_ rfl ?_
 ·
  simp [results, Try.results56, go_sem, *]
 ·
  refine ⟨_, rfl, ?_, _, rfl, (g5.keep ?_).mono ?_⟩
  all_goals clear hc1 hf1
  ·
   (first | exact extT | omega)
  ·
   repeat' (first | (with_reducible exact Chg.refl _ _) | (with_reducible refine Chg.drewN ?_ _) | (with_reducible refine Chg.drew ?_) | (with_reducible refine Chg.alloc ?_ _) | (with_reducible refine Chg.setLow ?_ ?_ _) | (with_reducible refine Chg.ext ?_ (by assumption)) | omega)
  ·
   omega

set_option maxHeartbeats 800000 in
theorem szView_c (w : World) (c0 : Int) (c1 : Int) (c2 : Int) (c3 : Int) (c4 : Int) (s5 : Value) (d5 : List Int) (L5 : Nat) (hL5 : d5.length = L5 * 2) (left : Int) (h5 : Ints 2 w s5 d5) (h0 : 0 ≤ left) (h1 : left ≤ 1048576) :
  Calls Try.prog 48 #[.agg #[.int .i64 c0, .int .i64 c1, .int .i64 c2, .int .i64 c3, .int .i64 c4, s5], .int .i64 left] w (Ret w fun v' _ => SzR left (L5) v') := by
 go_enter Try.func48, Try.ntmps48
 go_wp2_with (first | (go_at_call 98; refine (szJobs_c _ c0 c1 c2 c3 c4 s5 d5 L5 hL5 _ (h5.ext (by (first | exact extT | omega))) (by omega) (by omega)).mono ?_; rintro e w1 ⟨v1, rfl, hx1, hv⟩; have hz1 := hx1.size; obtain ⟨hc1, hf1⟩ := hx1.cells; (repeat (first | simp only [World.size_alloc] at hz1 hc1 hf1 | simp only [World.size_setCell] at hz1 hc1 hf1)); have hy1_0 : w.heap.size < w1.heap.size := (by omega); rcases hv with ⟨rfl, q1⟩ | ⟨rfl, q1⟩))
 all_goals
  go_ret
  refine ⟨_, rfl, ?_, ?_⟩
  ·
   (first | exact extT | omega)
  ·
   first | exact .inl ⟨rfl, by omega⟩ | (refine .inr ⟨congrArg (Value.int .i64) ?_, ?_⟩ <;> omega)

set_option maxHeartbeats 800000 in
theorem eqView_c (w : World) (c0 : Int) (c1 : Int) (c2 : Int) (c3 : Int) (c4 : Int) (s5 : Value) (t5 : Value) (d5 : List Int) (h5 : Ints 2 w s5 d5) (k5 : Ints 2 w t5 d5) :
  Calls Try.prog 61 #[.agg #[.int .i64 c0, .int .i64 c1, .int .i64 c2, .int .i64 c3, .int .i64 c4, s5], .agg #[.int .i64 c0, .int .i64 c1, .int .i64 c2, .int .i64 c3, .int .i64 c4, t5]] w (RetV w (.bool true)) := by
 go_enter Try.func61, Try.ntmps61
 go_wp2_with (first | (go_at_call 105; refine (eqJobs_c _ c0 c1 c2 c3 c4 s5 t5 d5 (h5.ext (by (first | exact extT | omega))) (k5.ext (by (first | exact extT | omega)))).mono ?_; rintro e w1 ⟨rfl, hx1⟩; have hz1 := hx1.size; obtain ⟨hc1, hf1⟩ := hx1.cells; (repeat (first | simp only [World.size_alloc] at hz1 hc1 hf1 | simp only [World.size_setCell] at hz1 hc1 hf1)); have hy1_0 : w.heap.size < w1.heap.size := (by omega); have hy1_1 : w.heap.size + 1 < w1.heap.size := (by omega)))
 go_ret
 refine ⟨rfl, ?_⟩
 (first | exact extT | omega)

set_option maxHeartbeats 800000 in
theorem markView_c (w : World) (B : Nat) (c0 : Int) (c1 : Int) (c2 : Int) (c3 : Int) (c4 : Int) (s5 : Value) (d5 : List Int) (L5 : Nat) (hL5 : d5.length = L5 * 2) (q : Int) (h5 : OwnI B 132 2 w s5 d5) (h0 : 0 ≤ q) (h1 : q + (L5 * 2 : Nat) ≤ 4611686018427387904) :
  Calls Try.prog 63 #[.agg #[.int .i64 c0, .int .i64 c1, .int .i64 c2, .int .i64 c3, .int .i64 c4, s5], .int .i64 q] w (RetM w (feet [s5]) (.int .i64 (q + (L5 * 2 : Nat))) fun w' => OwnI B 132 2 w' s5 (run q (L5 * 2))) := by
 go_enter Try.func63, Try.ntmps63
 go_wp2_with (first | (go_at_call 106; refine (markJobs_c _ B c0 c1 c2 c3 c4 s5 d5 L5 hL5 q (h5.ext (by (first | exact extT | omega))) h0 h1).mono ?_; rintro e w1 ⟨rfl, hx1, g1⟩))
 go_ret
 exact ⟨rfl, (Ext.upd ((Ext.refl w).alloc _) _).trans hx1, g1⟩

set_option maxHeartbeats 800000 in
theorem toSched_c (w : World) (c0 : Int) (c1 : Int) (c2 : Int) (c3 : Int) (c4 : Int) (c5 : Int) (c6 : Int) (s7 : Value) (d7 : List Int) (L7 : Nat) (hL7 : d7.length = L7 * 2) (c8 : Bool) (c9 : Int) (c10 : Int) (c11 : Int) (c12 : Int) (c13 : Int) (c14 : Int) (h7 : Ints 2 w s7 d7) (hs7 : L7 ≤ 1048576) :
  Calls Try.prog 19 #[.agg #[.int .i64 c0, .int .i64 c1, .int .i64 c2, .int .i64 c3, .int .i64 c4, .int .i64 c5, .int .i64 c6, s7, .bool c8, .int .i64 c9, .int .i64 c10, .int .i64 c11, .int .i64 c12, .int .i64 c13, .int .i64 c14]] w (Ret w fun v w' => ∃ t7 : Value, v = .agg #[.int .i64 c0, .int .i64 c1, .int .i64 c2, .int .i64 c3, .int .i64 c4, .int .i64 c5, .int .i64 c6, t7, .bool c8, .int .i64 c9, .int .i64 c10, .int .i64 c11, .int .i64 c12, .int .i64 c13, .int .i64 c14] ∧ OwnI w.heap.size 132 2 w' t7 d7) := by
 go_enter Try.func19, Try.ntmps19
 go_wp2_with (first | (go_at_call 56; refine (toView_c _ c2 c3 c4 c5 c6 s7 d7 L7 hL7 (h7.ext (by (first | exact extT | omega))) hs7).mono ?_; rintro e w1 ⟨_, rfl, hx1, t7, rfl, g7⟩; obtain ⟨ta7, tn7, tc7, rfl⟩ := g7.shape; have hz1 := hx1.size; obtain ⟨hc1, hf1⟩ := hx1.cells; (repeat (first | simp only [World.size_alloc] at hz1 hc1 hf1 g7 | simp only [World.size_setCell] at hz1 hc1 hf1 g7)); have hy1_0 : w.heap.size < w1.heap.size := (by omega); have hy1_1 : w.heap.size + 1 < w1.heap.size := (by omega); have hy1_2 : w.heap.size + 1 + 1 < w1.heap.size := (by omega)) | (go_at_call 57; refine (toOp_c _ c9 c10 c11 c12 c13).mono ?_; rintro e w2 ⟨rfl, hx2⟩; have hz2 := hx2.size; obtain ⟨hc2, hf2⟩ := hx2.cells; (repeat (first | simp only [World.size_alloc] at hz2 hc2 hf2 | simp only [World.size_setCell] at hz2 hc2 hf2)); have hy2_0 : w.heap.size < w2.heap.size := (by omega); have hy2_1 : w.heap.size + 1 < w2.heap.size := (by omega); have hy2_2 : w.heap.size + 1 + 1 < w2.heap.size := (by omega)))
 refine bodyPost_ret (v := .agg #[.int .i64 c0, .int .i64 c1, .int .i64 c2, .int .i64 c3, .int .i64 c4, .int .i64 c5, .int .i64 c6, .slice ta7 tn7 tc7, .bool c8, .int .i64 c9, .int .i64 c10, .int .i64 c11, .int .i64 c12, .int .i64 c13, .int .i64 c14]) ?_ rfl ?_
 ·
  simp [results, Try.results19, go_sem, *]
 ·
  refine ⟨_, rfl, ?_, _, rfl, (g7.keep ?_).mono ?_⟩
  all_goals clear hc1 hf1 hc2 hf2
  ·
   (first | exact extT | omega)
  ·
   repeat' (first | (with_reducible exact Chg.refl _ _) | (with_reducible refine Chg.drewN ?_ _) | (with_reducible refine Chg.drew ?_) | (with_reducible refine Chg.alloc ?_ _) | (with_reducible refine Chg.setLow ?_ ?_ _) | (with_reducible refine Chg.ext ?_ (by assumption)) | omega)
  ·
   omega

set_option maxHeartbeats 800000 in
theorem szSched_c (w : World) (c0 : Int) (c1 : Int) (c2 : Int) (c3 : Int) (c4 : Int) (c5 : Int) (c6 : Int) (s7 : Value) (d7 : List Int) (L7 : Nat) (hL7 : d7.length = L7 * 2) (c8 : Bool) (c9 : Int) (c10 : Int) (c11 : Int) (c12 : Int) (c13 : Int) (c14 : Int) (left : Int) (h7 : Ints 2 w s7 d7) (h0 : 0 ≤ left) (h1 : left ≤ 1048576) :
  Calls Try.prog 17 #[.agg #[.int .i64 c0, .int .i64 c1, .int .i64 c2, .int .i64 c3, .int .i64 c4, .int .i64 c5, .int .i64 c6, s7, .bool c8, .int .i64 c9, .int .i64 c10, .int .i64 c11, .int .i64 c12, .int .i64 c13, .int .i64 c14], .int .i64 left] w (Ret w fun v' _ => SzR left (L7) v') := by
 go_enter Try.func17, Try.ntmps17
 go_wp2_with (first | (go_at_call 48; refine (szView_c _ c2 c3 c4 c5 c6 s7 d7 L7 hL7 _ (h7.ext (by (first | exact extT | omega))) (by omega) (by omega)).mono ?_; rintro e w1 ⟨v1, rfl, hx1, hv⟩; have hz1 := hx1.size; obtain ⟨hc1, hf1⟩ := hx1.cells; (repeat (first | simp only [World.size_alloc] at hz1 hc1 hf1 | simp only [World.size_setCell] at hz1 hc1 hf1)); have hy1_0 : w.heap.size < w1.heap.size := (by omega); rcases hv with ⟨rfl, q1⟩ | ⟨rfl, q1⟩))
 all_goals
  go_ret
  refine ⟨_, rfl, ?_, ?_⟩
  ·
   (first | exact extT | omega)
  ·
   first | exact .inl ⟨rfl, by omega⟩ | (refine .inr ⟨congrArg (Value.int .i64) ?_, ?_⟩ <;> omega)

set_option maxHeartbeats 800000 in
theorem eqSched_c (w : World) (c0 : Int) (c1 : Int) (c2 : Int) (c3 : Int) (c4 : Int) (c5 : Int) (c6 : Int) (s7 : Value) (t7 : Value) (d7 : List Int) (c8 : Bool) (c9 : Int) (c10 : Int) (c11 : Int) (c12 : Int) (c13 : Int) (c14 : Int) (h7 : Ints 2 w s7 d7) (k7 : Ints 2 w t7 d7) :
  Calls Try.prog 21 #[.agg #[.int .i64 c0, .int .i64 c1, .int .i64 c2, .int .i64 c3, .int .i64 c4, .int .i64 c5, .int .i64 c6, s7, .bool c8, .int .i64 c9, .int .i64 c10, .int .i64 c11, .int .i64 c12, .int .i64 c13, .int .i64 c14], .agg #[.int .i64 c0, .int .i64 c1, .int .i64 c2, .int .i64 c3, .int .i64 c4, .int .i64 c5, .int .i64 c6, t7, .bool c8, .int .i64 c9, .int .i64 c10, .int .i64 c11, .int .i64 c12, .int .i64 c13, .int .i64 c14]] w (RetV w (.bool true)) := by
 go_enter Try.func21, Try.ntmps21
 go_wp2_with (first | (go_at_call 61; refine (eqView_c _ c2 c3 c4 c5 c6 s7 t7 d7 (h7.ext (by (first | exact extT | omega))) (k7.ext (by (first | exact extT | omega)))).mono ?_; rintro e w1 ⟨rfl, hx1⟩; have hz1 := hx1.size; obtain ⟨hc1, hf1⟩ := hx1.cells; (repeat (first | simp only [World.size_alloc] at hz1 hc1 hf1 | simp only [World.size_setCell] at hz1 hc1 hf1)); have hy1_0 : w.heap.size < w1.heap.size := (by omega); have hy1_1 : w.heap.size + 1 < w1.heap.size := (by omega)) | (go_at_call 62; refine (eqOp_c _ c9 c10 c11 c12 c13).mono ?_; rintro e w2 ⟨rfl, hx2⟩; have hz2 := hx2.size; obtain ⟨hc2, hf2⟩ := hx2.cells; (repeat (first | simp only [World.size_alloc] at hz2 hc2 hf2 | simp only [World.size_setCell] at hz2 hc2 hf2)); have hy2_0 : w.heap.size < w2.heap.size := (by omega); have hy2_1 : w.heap.size + 1 < w2.heap.size := (by omega)))
 go_ret
 refine ⟨rfl, ?_⟩
 (first | exact extT | omega)

set_option maxHeartbeats 800000 in
theorem markSched_c (w : World) (B : Nat) (c0 : Int) (c1 : Int) (c2 : Int) (c3 : Int) (c4 : Int) (c5 : Int) (c6 : Int) (s7 : Value) (d7 : List Int) (L7 : Nat) (hL7 : d7.length = L7 * 2) (c8 : Bool) (c9 : Int) (c10 : Int) (c11 : Int) (c12 : Int) (c13 : Int) (c14 : Int) (q : Int) (h7 : OwnI B 132 2 w s7 d7) (h0 : 0 ≤ q) (h1 : q + (L7 * 2 : Nat) ≤ 4611686018427387904) :
  Calls Try.prog 22 #[.agg #[.int .i64 c0, .int .i64 c1, .int .i64 c2, .int .i64 c3, .int .i64 c4, .int .i64 c5, .int .i64 c6, s7, .bool c8, .int .i64 c9, .int .i64 c10, .int .i64 c11, .int .i64 c12, .int .i64 c13, .int .i64 c14], .int .i64 q] w (RetM w (feet [s7]) (.int .i64 (q + (L7 * 2 : Nat))) fun w' => OwnI B 132 2 w' s7 (run q (L7 * 2))) := by
 go_enter Try.func22, Try.ntmps22
 go_wp2_with (first | (go_at_call 63; refine (markView_c _ B c2 c3 c4 c5 c6 s7 d7 L7 hL7 q (h7.ext (by (first | exact extT | omega))) h0 h1).mono ?_; rintro e w1 ⟨rfl, hx1, g1⟩))
 go_ret
 exact ⟨rfl, (Ext.upd ((Ext.refl w).alloc _) _).trans hx1, g1⟩

end Go.Proofs.Ythihnangjghloaa

-- Schedulers as one thing: read, owned, marked.
set_option linter.unusedSimpArgs false
set_option linter.unusedVariables false
namespace Go.Proofs.Ythihnangjghloaa
open Go.RowKit Go.G8

end Go.Proofs.Ythihnangjghloaa
namespace Go.G8
open Go.RowKit
theorem OwnI.boxS {B : Nat} {e : TypeId} {n : Nat} {w : World} {v : Value} {xs : List Int} (h : OwnI B e n w v xs) {X : Nat} {t : TypeId} {a : Array Value} (hX : Blk w X t a) (h1 : t ≠ e) (i : Nat) (u : Value) : OwnI B e n (w.setCell ⟨X, i, none⟩ u) v xs :=
 OwnI.upd' h ((Upd.refl w [X]).setCell (by simp) _) (fun k hk hf => by
  obtain ⟨cur, hb⟩ := h.typed hk
  simp at hf; subst hf
  exact h1 (hX.same hb))
end Go.G8
namespace Go.Proofs.Ythihnangjghloaa
open Go.RowKit Go.G8
def RdSched (w : World) (v : Value) (s : DSched) : Prop := ∃ t2 : Value, v = .agg #[.int .i64 s.Id, .int .i64 s.Seq, .int .i64 s.View.Jobs.Index, .int .i64 s.View.Jobs.Time, .int .i64 s.View.Jobs.Holder, .int .i64 s.View.Jobs.Epoch, .int .i64 s.View.Jobs.Until, t2, .bool s.Busy, .int .i64 s.Op.Kind, .int .i64 s.Op.A, .int .i64 s.Op.B, .int .i64 s.Op.C, .int .i64 s.Op.D, .int .i64 s.Index] ∧ Ints 2 w t2 (dues s.View.Jobs.Open)
def OwSched (B : Nat) (w : World) (v : Value) (s : DSched) (F : List Nat) : Prop := ∃ t2 : Value, v = .agg #[.int .i64 s.Id, .int .i64 s.Seq, .int .i64 s.View.Jobs.Index, .int .i64 s.View.Jobs.Time, .int .i64 s.View.Jobs.Holder, .int .i64 s.View.Jobs.Epoch, .int .i64 s.View.Jobs.Until, t2, .bool s.Busy, .int .i64 s.Op.Kind, .int .i64 s.Op.A, .int .i64 s.Op.B, .int .i64 s.Op.C, .int .i64 s.Op.D, .int .i64 s.Index] ∧ OwnI B 132 2 w t2 (dues s.View.Jobs.Open) ∧ F = feet [t2]
def numSched (s : DSched) : Nat := s.View.Jobs.Open.length * 2
def MkSched (B : Nat) (w : World) (v : Value) (s : DSched) (F : List Nat) (q : Int) : Prop := ∃ t2 : Value, v = .agg #[.int .i64 s.Id, .int .i64 s.Seq, .int .i64 s.View.Jobs.Index, .int .i64 s.View.Jobs.Time, .int .i64 s.View.Jobs.Holder, .int .i64 s.View.Jobs.Epoch, .int .i64 s.View.Jobs.Until, t2, .bool s.Busy, .int .i64 s.Op.Kind, .int .i64 s.Op.A, .int .i64 s.Op.B, .int .i64 s.Op.C, .int .i64 s.Op.D, .int .i64 s.Index] ∧ OwnI B 132 2 w t2 (run q (s.View.Jobs.Open.length * 2)) ∧ F = feet [t2]
section
variable {B B' : Nat} {w w' : World} {v : Value} {s s' : DSched} {F : List Nat} {q : Int}
theorem RdSched.shape (h : RdSched w v s) : ∃ a7 n7 k7, v = .agg #[.int .i64 s.Id, .int .i64 s.Seq, .int .i64 s.View.Jobs.Index, .int .i64 s.View.Jobs.Time, .int .i64 s.View.Jobs.Holder, .int .i64 s.View.Jobs.Epoch, .int .i64 s.View.Jobs.Until, .slice a7 n7 k7, .bool s.Busy, .int .i64 s.Op.Kind, .int .i64 s.Op.A, .int .i64 s.Op.B, .int .i64 s.Op.C, .int .i64 s.Op.D, .int .i64 s.Index] := by
 obtain ⟨t2, rfl, h2⟩ := h
 obtain ⟨a2, n2, k2, rfl⟩ := h2.shape
 exact ⟨a2, n2, k2, rfl⟩
theorem RdSched.ext (h : RdSched w v s) (x : Ext w w') : RdSched w' v s := let ⟨t2, e, h2⟩ := h; ⟨t2, e, h2.ext x⟩
theorem OwSched.rd (h : OwSched B w v s F) : RdSched w v s := let ⟨t2, e, h2, _⟩ := h; ⟨t2, e, h2.ints⟩
theorem OwSched.ext (h : OwSched B w v s F) (x : Ext w w') : OwSched B w' v s F := let ⟨t2, e, h2, hF⟩ := h; ⟨t2, e, Own.ext h2 x, hF⟩
theorem OwSched.keep (h : OwSched B w v s F) (x : Chg B w w') : OwSched B w' v s F := let ⟨t2, e, h2, hF⟩ := h; ⟨t2, e, h2.keep x, hF⟩
theorem OwSched.mono (h : OwSched B w v s F) (x : B' ≤ B) : OwSched B' w v s F := let ⟨t2, e, h2, hF⟩ := h; ⟨t2, e, h2.mono x, hF⟩
theorem OwSched.upd (h : OwSched B w v s F) {fs : List Nat} (x : Upd w w' fs) (hn : ∀ k, k ∈ F → k ∈ fs → False) : OwSched B w' v s F := by
 obtain ⟨t2, e, h2, rfl⟩ := h
 exact ⟨t2, e, OwnI.upd' h2 x hn, rfl⟩
theorem OwSched.box (h : OwSched B w v s F) {X : Nat} {a : Array Value} (hX : Blk w X 65 a) (i : Nat) (u : Value) : OwSched B (w.setCell ⟨X, i, none⟩ u) v s F := let ⟨t2, e, h2, hF⟩ := h; ⟨t2, e, h2.boxS hX (by decide) i u, hF⟩
theorem OwSched.low (h : OwSched B w v s F) : ∀ k, k ∈ F → B ≤ k ∧ k < w.heap.size := by
 obtain ⟨t2, e, h2, rfl⟩ := h
 exact fun k hk => h2.foot k hk
theorem MkSched.ext (h : MkSched B w v s F q) (x : Ext w w') : MkSched B w' v s F q := let ⟨t2, e, h2, hF⟩ := h; ⟨t2, e, Own.ext h2 x, hF⟩
theorem MkSched.upd (h : MkSched B w v s F q) {fs : List Nat} (x : Upd w w' fs) (hn : ∀ k, k ∈ F → k ∈ fs → False) : MkSched B w' v s F q := by
 obtain ⟨t2, e, h2, rfl⟩ := h
 exact ⟨t2, e, OwnI.upd' h2 x hn, rfl⟩
theorem numSched_le (q2 : s.View.Jobs.Open.length ≤ 1048576) : numSched s ≤ 100000000 := by unfold numSched; omega
theorem to_Sched (h : RdSched w v s) (q2 : s.View.Jobs.Open.length ≤ 1048576) : Calls Try.prog 19 #[v] w (Ret w fun v' w' => ∃ F, OwSched w.heap.size w' v' s F) := by
 obtain ⟨t2, rfl, h2⟩ := h
 refine (toSched_c w _ _ _ _ _ _ _ t2 _ _ (length_dues _) _ _ _ _ _ _ _ h2 q2).mono ?_
 rintro e w' ⟨_, rfl, hx, u2, rfl, g2⟩
 exact ⟨_, rfl, hx, _, u2, rfl, g2, rfl⟩
theorem sz_Sched (h : RdSched w v s) {left : Int} (h0 : 0 ≤ left) (h1 : left ≤ 1048576) : Calls Try.prog 17 #[v, .int .i64 left] w (Ret w fun v' _ => SzR left (s.View.Jobs.Open.length) v') := by
 obtain ⟨t2, rfl, h2⟩ := h
 exact szSched_c w _ _ _ _ _ _ _ t2 _ _ (length_dues _) _ _ _ _ _ _ _ _ h2 h0 h1
theorem eq_Sched {u : Value} (h : RdSched w v s) (k : RdSched w u s) : Calls Try.prog 21 #[v, u] w (RetV w (.bool true)) := by
 obtain ⟨t2, rfl, h2⟩ := h
 obtain ⟨u2, rfl, k2⟩ := k
 exact eqSched_c w _ _ _ _ _ _ _ t2 u2 _ _ _ _ _ _ _ _ h2 k2
theorem mark_Sched (h : OwSched B w v s F) (hq0 : 0 ≤ q) (hq1 : q + (numSched s : Nat) ≤ 4611686018427387904) : Calls Try.prog 22 #[v, .int .i64 q] w (RetM w F (.int .i64 (q + (numSched s : Nat))) fun w' => MkSched B w' v s F q) := by
 obtain ⟨t2, rfl, h2, rfl⟩ := h
 unfold numSched at hq1 ⊢
 refine (markSched_c w B _ _ _ _ _ _ _ t2 _ _ (length_dues _) _ _ _ _ _ _ _ q h2 hq0 (by omega)).mono ?_
 rintro e w' ⟨rfl, hx, g2⟩
 exact ⟨rfl, hx, t2, rfl, g2, rfl⟩
end
theorem sSchedOk_k {w : World} {v : Value} {s : DSched} (h : RdSched w v s) : Calls Try.prog 49 #[v] w (RetV w (.bool (schedOkS s))) := by
 obtain ⟨t2, rfl, h2⟩ := h
 exact sSchedOk_c w _ _ _ _ _ _ _ t2 _ _ _ _ _ _ _ _ h2
theorem schedOk_kS {w : World} {v : Value} {s : DSched} (h : RdSched w v s) : Calls Try.prog 58 #[v] w (RetV w (.bool (schedOkS s))) := by
 obtain ⟨t2, rfl, h2⟩ := h
 exact schedOk_cS w _ _ _ _ _ _ _ t2 _ _ _ _ _ _ _ _ h2
end Go.Proofs.Ythihnangjghloaa

-- AckHeard, without the program.
set_option linter.unusedSimpArgs false
set_option linter.unusedVariables false
namespace Go.Proofs.Ythihnangjghloaa
open Go.RowKit Go.G8

end Go.Proofs.Ythihnangjghloaa

-- Acknowledgements, without the program.
set_option linter.unusedSimpArgs false
set_option linter.unusedVariables false
namespace Go.Proofs.Ythihnangjghloaa
open Go.RowKit Go.G8

end Go.Proofs.Ythihnangjghloaa
namespace Go.G8
open Go.RowKit
open Go.Proofs.Ythihnangjghloaa
theorem schedOkS_parts {s : DSched} (h : schedOkS s = true) : schedOk s.Id = true ∧ (0 ≤ s.Seq ∧ s.Seq ≤ 2000) ∧ jobsOk2 s.View.Jobs = true ∧ (0 ≤ s.Index ∧ s.Index ≤ 2000) ∧ (s.Busy = false → opZ s.Op = true) ∧ (s.Busy = true → 0 < s.Seq ∧ opOk s.Op = true ∧ (s.Op.Kind = 4 ∨ s.Op.Kind = 5)) := by
 simp only [schedOkS, Bool.and_eq_true] at h
 obtain ⟨h1, h2, h3, h4, h5⟩ := h
 refine ⟨h1, inb_true.1 h2, h3, inb_true.1 h4, fun hb => ?_, fun hb => ?_⟩
 ·
  rw [hb] at h5; exact h5
 ·
  rw [hb] at h5
  simp only [if_true, Bool.and_eq_true, Bool.or_eq_true, decide_eq_true_eq] at h5
  exact h5
end Go.G8
namespace Go.Proofs.Ythihnangjghloaa
open Go.RowKit Go.G8

end Go.Proofs.Ythihnangjghloaa

-- The reference's numbers of states.
set_option linter.unusedSimpArgs false
set_option linter.unusedVariables false
namespace Go.Proofs.Ythihnangjghloaa
open Go.RowKit Go.G8

theorem OwnI.lit (w : World) (e : TypeId) (xs : List Int) (h : xs.length ≤ 1000) : OwnI w.heap.size e 1 (w.alloc (.cells (xs.map (Value.int .i64)).toArray e)) (.slice (some ⟨w.heap.size, 0, none⟩) xs.length xs.length) xs := by
 refine Own.of_blk (cap := xs.length) (Blk.new w _ _) (Nat.le_refl _) (by simp) (by simp) (Nat.le_refl _) (by unfold maxLen; omega) ?_
 intro j hj
 simp

end Go.Proofs.Ythihnangjghloaa

-- Rows of polls and of asks.
set_option linter.unusedSimpArgs false
set_option linter.unusedVariables false
namespace Go.Proofs.Ythihnangjghloaa
open Go.RowKit Go.G8

def pollL (id : Int) : List Int := [8, id]
def askL (a : DAsk) : List Int := [1, a.Client, a.Seq, a.Op.Kind, a.Op.A, a.Op.B, a.Op.C, a.Op.D]
noncomputable def sendsL (s : DSched) : List NRow := if schedOkS s then (if s.Busy then [([s.Id, 1], pollL s.Id), ([s.Id, 0], askL ⟨s.Id, s.Seq, s.Op⟩)] else [([s.Id, 1], pollL s.Id)]) else []
theorem sends_bad {s : DSched} (h : schedOkS s = false) : sendsL s = [] := by unfold sendsL; rw [h]; rfl
theorem sends_idle {s : DSched} (h : schedOkS s = true) (h1 : s.Busy = false) : sendsL s = [([s.Id, 1], pollL s.Id)] := by unfold sendsL; rw [if_pos h, h1]; rfl
theorem sends_busy {s : DSched} (h : schedOkS s = true) (h1 : s.Busy = true) : sendsL s = [([s.Id, 1], pollL s.Id)] ++ [([s.Id, 0], askL ⟨s.Id, s.Seq, s.Op⟩)] := by unfold sendsL; rw [if_pos h, if_pos h1]; rfl
theorem nSends (s : DSched) : numMsgs (sendsL s) ≤ 100000000 := by
 unfold numMsgs sendsL
 split
 ·
  split <;> simp [tot, pollL, askL]
 ·
  simp [tot]
theorem asks_ok {s : DSched} (h : schedOkS s = true) (h1 : s.Busy = true) : askOk ⟨s.Id, s.Seq, s.Op⟩ = true := by
 obtain ⟨p1, p2, p3, p4, p5, p6⟩ := schedOkS_parts h
 obtain ⟨q1, q2, q3⟩ := p6 h1
 have hid : s.Id = 2 ∨ s.Id = 3 := by simpa [schedOk] using p1
 simp only [askOk, Bool.and_eq_true]
 exact ⟨inb_of (by omega) (by omega), inb_of (by omega) p2.2, q2⟩
set_option maxHeartbeats 4000000 in
set_option maxRecDepth 100000 in
theorem l11One_k (w : World) (id : Int) (h : inb id 2 3 = true) : Calls Try.prog 108 #[.int .i64 8, .int .i64 id, .int .i64 2, .int .i64 3] w (Ret w fun r w' => OwnI w.heap.size 2 1 w' r (pollL id)) := by
 have H := Lib.hid h; clear h
 go_enter Try.func108, Try.ntmps108
 go_wp2_with fail
 refine (l1In_c _ id 2 3).mono ?_
 rintro e w1 ⟨rfl, rfl⟩
 rw [H.out]
 go_wp2_with fail
 go_ret
 exact ⟨_, rfl, by exact extT, (show OwnI _ 2 1 _ _ [8, id] from OwnI.lit _ 2 [8, id] (by simp))⟩
set_option maxHeartbeats 4000000 in
set_option maxRecDepth 100000 in
theorem sPollRow_k (w : World) (id : Int) (h : schedOk id = true) : Calls Try.prog 65 #[.int .i64 id] w (Ret w fun r w' => OwnI w.heap.size 2 1 w' r (pollL id)) := by
 have h1 : inb id 2 3 = true := by
  have : id = 2 ∨ id = 3 := by simpa [schedOk] using h
  exact inb_of (by omega) (by omega)
 have H := Lib.hid h1; clear h h1
 go_enter Try.func65, Try.ntmps65
 go_wp2_with fail
 refine (l11One_k _ id H.out).mono ?_
 rintro e w1 ⟨_, rfl, hx, g⟩
 go_wp2
 go_ret
 exact ⟨_, rfl, hx, g⟩

end Go.Proofs.Ythihnangjghloaa

-- What is owned stays owned where boxes of other types are written.
set_option linter.unusedSimpArgs false
set_option linter.unusedVariables false
namespace Go.Proofs.Ythihnangjghloaa
open Go.RowKit Go.G8

end Go.Proofs.Ythihnangjghloaa
namespace Go.G8
open Go.RowKit
theorem wp_append_own0 {P : Program} {w : World} {o : Oper} {a : Act} {K : Act → World → Prop} {Q : Exit → Act → World → Prop} (s x : Operand) (t : TypeId)
  (ho : o.op = .call { callee := .builtin .append, args := #[s, x], argTypes := #[t, t] })
  (e : TypeId) (i : TypeInfo) (z : Value) (size bytes : Nat) (ht : P.underlying t = some (.slice e)) (hi : P.info? e = some i) (hz : i.zero = some z)
  (hsize : i.size = size) (hby : i.bytes = bytes) (hzs : z.cells.size = size) (hsz : 0 < size)
  (B : Nat) (v : Value) (cs : List Value) (hs : a.eval s = v) (hown : Own B e size w v cs) (ad : Addr) (m c : Nat) (news : List Value) (hx : a.eval x = .slice (some ad) m c) (hl : news.length = m * size) (hnews : ∀ j u, news[j]? = some u → w.cell? (ad.add j) = some u) (h1 : ∀ u ∈ news, u.oneCell' = true) (hm : 0 < m)
  (n : Nat) (hlen : cs.length + news.length ≤ n * size) (hn : n ≤ maxLen) (hbytes : n * bytes ≤ 140737488355328) (hbase : B ≤ w.heap.size)
  (h : ∀ v' w', Own B e size w' v' (cs ++ news) → w.grownBy w' v.ownBlock → K (a.put o.dst v') w') : o.wp P a w K Q := by
 obtain ⟨len, ho'⟩ := hown
 have hl0 : cs.length = len * size := ho'.1
 have hle : len + m ≤ n := by
  have : (len + m) * size ≤ n * size := by rw [Nat.add_mul]; omega
  exact Nat.le_of_mul_le_mul_right this hsz
 exact wp_append_lies w s x t ho B e i z size bytes ht hi hz hsize hby hzs hsz v len cs hs ho' ad m c news hx hl hnews h1 hm (Nat.le_trans hle hn) (Nat.le_trans (Nat.mul_le_mul_right _ hle) hbytes) hbase _ rfl (fun g cap w' h2 h3 _ _ => h _ w' ⟨_, h2⟩ h3)
end Go.G8
namespace Go.Proofs.Ythihnangjghloaa
open Go.RowKit Go.G8

end Go.Proofs.Ythihnangjghloaa

-- Rows of asks.
set_option linter.unusedSimpArgs false
set_option linter.unusedVariables false
namespace Go.Proofs.Ythihnangjghloaa
open Go.RowKit Go.G8

end Go.Proofs.Ythihnangjghloaa
namespace Go.G8
open Go.RowKit
theorem wp_appendI {P : Program} {w : World} {o : Oper} {a : Act} {K : Act → World → Prop} {Q : Exit → Act → World → Prop} (s x : Operand) (t : TypeId)
  (ho : o.op = .call { callee := .builtin .append, args := #[s, x], argTypes := #[t, t] })
  (e : TypeId) (i : TypeInfo) (z : Value) (bytes : Nat) (ht : P.underlying t = some (.slice e)) (hi : P.info? e = some i) (hz : i.zero = some z)
  (hsize : i.size = 1) (hby : i.bytes = bytes) (hzs : z.cells.size = 1)
  (B B2 : Nat) (v u : Value) (xs ys : List Int) (hs : a.eval s = v) (hown : OwnI B e 1 w v xs) (hx : a.eval x = u) (hy : OwnI B2 e 1 w u ys) (hp : 0 < ys.length)
  (n : Nat) (hlen : xs.length + ys.length ≤ n) (hn : n ≤ maxLen) (hbytes : n * bytes ≤ 140737488355328) (hbase : B ≤ w.heap.size)
  (h : ∀ v' w', OwnI B e 1 w' v' (xs ++ ys) → (∀ W0 : World, Ext W0 w → W0.heap.size ≤ B → Ext W0 w') → K (a.put o.dst v') w') : o.wp P a w K Q := by
 obtain ⟨ta, tn, tc, rfl, hl, hc1, hc2, hor⟩ := Own.open_ hy
 simp only [List.length_map, Nat.mul_one] at hl
 rcases hor with h0 | ⟨X, cur, rfl, hB, hb, hsz, hpre⟩
 ·
  omega
 refine wp_append_own0 s x t ho e i z 1 bytes ht hi hz hsize hby hzs (by omega) B v _ hs hown ⟨X, 0, none⟩ tn tc (ys.map (.int .i64)) hx (by simp; omega) (fun j u hj => ?_) (ints_oneCell _ _) (by omega) n (by simpa using hlen) hn hbytes hbase (fun v' w' h1 h2 => h v' w' (by unfold OwnI; rw [List.map_append]; exact h1) (fun W0 hW hB0 => Ext.own hW hown hB0 h2))
 have hjl : j < ys.length := by
  have := (List.getElem?_eq_some_iff.1 hj).1
  simpa using this
 have h1 := hpre j (by omega)
 have h2 : Addr.add ⟨X, 0, none⟩ j = ⟨X, j, none⟩ := by unfold Addr.add; split <;> simp_all
 rw [h2, hb.cell, h1]; exact hj
end Go.G8
namespace Go.Proofs.Ythihnangjghloaa
open Go.RowKit Go.G8
set_option maxHeartbeats 4000000 in
set_option maxRecDepth 100000 in
theorem sAskOk_k (w : World) (i q k a b c d : Int) : Calls Try.prog 109 #[.agg #[.int .i64 i, .int .i64 q, .int .i64 k, .int .i64 a, .int .i64 b, .int .i64 c, .int .i64 d]] w (RetV w (.bool (askOk (⟨i, q, ⟨k, a, b, c, d⟩⟩ : DAsk)))) := by
 obtain ⟨b1, h1⟩ : ∃ z9, inb i 2 5 = z9 := ⟨_, rfl⟩
 obtain ⟨b2, h2⟩ : ∃ z9, inb q 1 2000 = z9 := ⟨_, rfl⟩
 obtain ⟨b3, h3⟩ : ∃ z9, opOk ⟨k, a, b, c, d⟩ = z9 := ⟨_, rfl⟩
 have e : askOk (⟨i, q, ⟨k, a, b, c, d⟩⟩ : DAsk) = (b1 && (b2 && b3)) := by rw [← h1, ← h2, ← h3]; rfl
 rw [e]; clear e
 have H1 := Lib.hid h1; have H2 := Lib.hid h2; have H3 := Lib.hid h3; clear h1 h2 h3
 go_enter Try.func109, Try.ntmps109
 go_wp2_with fail
 refine (sAskerOk_e _ i).mono ?_
 rintro e w9 ⟨rfl, rfl⟩
 rw [H1.out]
 cases b1
 ·
  go_wp2; go_ret; exact ⟨rfl, by exact extT⟩
 go_wp2_with fail
 refine (l7Seq_e _ q).mono ?_
 rintro e w9 ⟨rfl, rfl⟩
 rw [H2.out]
 cases b2
 ·
  go_wp2; go_ret; exact ⟨rfl, by exact extT⟩
 go_wp2_with fail
 refine (sOpOk_e _ k a b c d).mono ?_
 rintro e w9 ⟨rfl, hx9⟩
 rw [H3.out]
 go_wp2; go_ret; exact ⟨rfl, by exact extT⟩
set_option maxHeartbeats 4000000 in
set_option maxRecDepth 100000 in
theorem askOk_k (w : World) (i q k a b c d : Int) : Calls Try.prog 187 #[.agg #[.int .i64 i, .int .i64 q, .int .i64 k, .int .i64 a, .int .i64 b, .int .i64 c, .int .i64 d]] w (RetV w (.bool (askOk (⟨i, q, ⟨k, a, b, c, d⟩⟩ : DAsk)))) := by
 obtain ⟨b1, h1⟩ : ∃ z9, inb i 2 5 = z9 := ⟨_, rfl⟩
 obtain ⟨b2, h2⟩ : ∃ z9, inb q 1 2000 = z9 := ⟨_, rfl⟩
 obtain ⟨b3, h3⟩ : ∃ z9, opOk ⟨k, a, b, c, d⟩ = z9 := ⟨_, rfl⟩
 have e : askOk (⟨i, q, ⟨k, a, b, c, d⟩⟩ : DAsk) = (b1 && (b2 && b3)) := by rw [← h1, ← h2, ← h3]; rfl
 rw [e]; clear e
 have H1 := Lib.hid h1; have H2 := Lib.hid h2; have H3 := Lib.hid h3; clear h1 h2 h3
 go_enter Try.func187, Try.ntmps187
 go_wp2_with fail
 refine (askerOk_e _ i).mono ?_
 rintro e w9 ⟨rfl, rfl⟩
 rw [H1.out]
 cases b1
 ·
  go_wp2; go_ret; exact ⟨rfl, by exact extT⟩
 go_wp2_with fail
 refine (seqOk_e _ q).mono ?_
 rintro e w9 ⟨rfl, rfl⟩
 rw [H2.out]
 cases b2
 ·
  go_wp2; go_ret; exact ⟨rfl, by exact extT⟩
 go_wp2_with fail
 refine (opOk_e _ k a b c d).mono ?_
 rintro e w9 ⟨rfl, hx9⟩
 rw [H3.out]
 go_wp2; go_ret; exact ⟨rfl, by exact extT⟩
set_option maxHeartbeats 4000000 in
set_option maxRecDepth 100000 in
theorem sOpRow_k (w : World) (k a b c d : Int) (h : opOk ⟨k, a, b, c, d⟩ = true) : Calls Try.prog 110 #[.agg #[.int .i64 k, .int .i64 a, .int .i64 b, .int .i64 c, .int .i64 d]] w (Ret w fun r w' => OwnI w.heap.size 2 1 w' r [k, a, b, c, d]) := by
 have H := Lib.hid h; clear h
 have E0 : Ext w w := Ext.refl _
 go_enter Try.func110, Try.ntmps110
 go_wp2_with fail
 refine (sOpOk_e _ k a b c d).mono ?_
 rintro e w1 ⟨rfl, hx1⟩
 have X1 : Ext w w1 := Ext.trans (by exact extT) hx1
 have hz1 := X1.size
 have hy1 := hx1.size; (try simp only [szA] at hy1)
 have KO1 : Blk w1 w.heap.size 63 #[.int .i64 k, .int .i64 a, .int .i64 b, .int .i64 c, .int .i64 d] := Blk.ext (Blk.cast (by exact blkT) setsT) hx1
 have E1 : Ext w w1 := E0.trans X1
 clear hx1 X1
 have CO1 := KO1.cell; have FO1 := KO1.frozen; have LO1 := KO1.lt
 rw [H.out]
 go_wp2_with fail
 go_ret
 exact ⟨_, rfl, by exact extT, (show OwnI _ 2 1 _ _ [k, a, b, c, d] from OwnI.lit _ 2 [k, a, b, c, d] (by simp)).mono (by first | omega | (simp; done) | (simp; omega) | (simp only [szA]; omega))⟩
set_option maxHeartbeats 4000000 in
set_option maxRecDepth 100000 in
theorem numbers_k (w : World) (k a b c d : Int) : Calls Try.prog 181 #[.agg #[.int .i64 k, .int .i64 a, .int .i64 b, .int .i64 c, .int .i64 d]] w (Ret w fun r w' => OwnI w.heap.size 2 1 w' r [k, a, b, c, d]) := by
 have E0 : Ext w w := Ext.refl _
 go_enter Try.func181, Try.ntmps181
 go_wp2_with fail
 go_ret
 have h9 := OwnI.lit (w.alloc (.cells #[.int .i64 k, .int .i64 a, .int .i64 b, .int .i64 c, .int .i64 d] 63)) 2 [k, a, b, c, d] (by simp)
 simp only [World.size_alloc] at h9
 exact ⟨_, rfl, by exact extT, h9.mono (by omega)⟩
set_option maxHeartbeats 4000000 in
set_option maxRecDepth 100000 in
theorem sAskRow_k (w : World) (i q k a b c d : Int) (h : askOk (⟨i, q, ⟨k, a, b, c, d⟩⟩ : DAsk) = true) : Calls Try.prog 67 #[.agg #[.int .i64 i, .int .i64 q, .int .i64 k, .int .i64 a, .int .i64 b, .int .i64 c, .int .i64 d]] w (Ret w fun r w' => OwnI w.heap.size 2 1 w' r ([1, i, q] ++ [k, a, b, c, d])) := by
 obtain ⟨i0, qi, qy0, qy1, qy2⟩ := info_parts info_Int64
 have H := Lib.hid h; have HO : Hid (opOk ⟨k, a, b, c, d⟩ = true) := Lib.hid (by simp only [askOk, Bool.and_eq_true] at h; exact h.2.2); clear h
 have E0 : Ext w w := Ext.refl _
 go_enter Try.func67, Try.ntmps67
 go_wp2_with fail
 refine (sAskOk_k _ i q k a b c d).mono ?_
 rintro e w1 ⟨rfl, hx1⟩
 have X1 : Ext w w1 := Ext.trans (by exact extT) hx1
 have hz1 := X1.size
 have hy1 := hx1.size; (try simp only [szA] at hy1)
 have KA1 : Blk w1 w.heap.size 120 #[.int .i64 i, .int .i64 q, .int .i64 k, .int .i64 a, .int .i64 b, .int .i64 c, .int .i64 d] := Blk.ext (Blk.cast (by exact blkT) setsT) hx1
 have E1 : Ext w w1 := E0.trans X1
 clear hx1 X1
 have CA1 := KA1.cell; have FA1 := KA1.frozen; have LA1 := KA1.lt
 rw [H.out]
 go_wp2_with fail
 refine wp_region_held_drew (S := fun w' => Ext w1 w') (by kernel_rfl) (by (try dsimp only); first | exact Ext.drew (Ext.refl _) | exact extT) (fun hHeld => ?_)
 refine wpAnyH_take (i := 0) (v := ?_) rfl (by kernel_rfl) (by kernel_rfl) (by kernel_rfl) (fun _ _ _ h => h) (Or.inl ⟨by rfl, ?_⟩) (by assumption) ?_
 rotate_left
 focus (intro w hSw; (try dsimp only at hSw); go_simp <;> with_reducible rfl)
 (try simp only [redA, Act.put])
 refine wpAnyH_take (i := 1) (v := ?_) rfl (by kernel_rfl) (by kernel_rfl) (by kernel_rfl) (fun _ _ _ h => h) (Or.inl ⟨by rfl, ?_⟩) (by assumption) ?_
 rotate_left
 focus (intro w hSw; (try dsimp only at hSw); have hq := (KA1.ext hSw).cell; have hq2 := (KA1.ext hSw).lt; go_simp <;> with_reducible rfl)
 (try simp only [redA, Act.put])
 refine wpAnyH_take (i := 2) (v := ?_) rfl (by kernel_rfl) (by kernel_rfl) (by kernel_rfl) (fun _ _ _ h => h) (Or.inl ⟨by rfl, ?_⟩) (by assumption) ?_
 rotate_left
 focus (intro w hSw; (try dsimp only at hSw); go_simp <;> with_reducible rfl)
 (try simp only [redA, Act.put])
 refine wpAnyH_take (i := 3) (v := ?_) rfl (by kernel_rfl) (by kernel_rfl) (by kernel_rfl) (fun _ _ _ h => h) (Or.inl ⟨by rfl, ?_⟩) (by assumption) ?_
 rotate_left
 focus (intro w hSw; (try dsimp only at hSw); have hq := (KA1.ext hSw).cell; have hq2 := (KA1.ext hSw).lt; go_simp <;> with_reducible rfl)
 (try simp only [redA, Act.put])
 refine wpAnyH_take (i := 5) (v := ?_) rfl (by kernel_rfl) (by kernel_rfl) (by kernel_rfl) (fun _ _ _ h => h) (Or.inl ⟨by rfl, ?_⟩) (by assumption) ?_
 rotate_left
 focus (intro w hSw; (try dsimp only at hSw); go_simp <;> with_reducible rfl)
 (try simp only [redA, Act.put])
 refine wpAnyH_take (i := 6) (v := ?_) rfl (by kernel_rfl) (by kernel_rfl) (by kernel_rfl) (fun _ _ _ h => h) (Or.inl ⟨by rfl, ?_⟩) (by assumption) ?_
 rotate_left
 focus (intro w hSw; (try dsimp only at hSw); have hq := (KA1.ext hSw).cell; have hq2 := (KA1.ext hSw).lt; go_simp <;> with_reducible rfl)
 (try simp only [redA, Act.put])
 refine wpAnyH_ready (rs := [4, 7]) (by kernel_rfl) (by simp) ?_
 refine AllReadyH.cons rfl (fun Kz hKz => ?_) (AllReadyH.cons rfl (fun Kz hKz => ?_) AllReadyH.nil)
 ·
  skip
  (try simp only [redA])
  go_simp
  refine hKz.out _ _ (by (try dsimp only); exact extT) (fun hHeld => ?_)
  clear hKz Kz
  (try simp only [redA, Act.put])
  refine wpAnyH_ready (rs := [7]) (by kernel_rfl) (by simp) ?_
  refine AllReadyH.cons rfl (fun Kz hKz => ?_) AllReadyH.nil
  (try simp only [redA])
  go_simp
  go_at_call 110
  refine (sOpRow_k _ k a b c d HO.out).mono ?_
  rintro e w2 ⟨_, rfl, hx2, Or⟩
  have X2 : Ext w1 w2 := Ext.trans (by exact extT) hx2; have hz2 := X2.size; have hv2 := hx2.size; (try simp only [szA] at hv2)
  have Ol0 : OwnI w1.heap.size 2 1 (w1.alloc (.cells #[.int .i64 1, .int .i64 i, .int .i64 q] 2)) (.slice (some ⟨w1.heap.size, 0, none⟩) 3 3) [1, i, q] := OwnI.mono (OwnI.lit w1 2 [1, i, q] (by simp)) (by omega)
  have Ol := OwnI.ext1 Ol0 (Ext.trans (by exact extT) hx2); clear Ol0
  replace Or := OwnI.mono (B' := w.heap.size) Or (by first | omega | (simp; done) | (simp; omega) | (simp only [szA]; omega))
  clear hx2
  refine hKz.out _ _ (by (try dsimp only); exact extT) (fun hHeld => ?_)
  clear hKz Kz
  (try simp only [redA, Act.put])
  refine wpAnyH_ready (rs := [8]) (by kernel_rfl) (by simp) ?_
  refine AllReadyH.cons rfl (fun Kz hKz => ?_) AllReadyH.nil
  (try simp only [redA])
  rw [if_pos (by rfl)]; refine wp_appendI (.tmp 11) (.tmp 14) 86 (by rfl) 2 i0 _ 8 Try.underlying86 qi qy0 qy1 qy2 rfl w1.heap.size w.heap.size _ _ [1, i, q] [k, a, b, c, d] (by rfl) ?_ (by rfl) ?_ (by simp) 1000 (by simp) (by unfold maxLen; omega) (by omega) (by first | omega | (simp; done) | (simp; omega) | (simp only [szA]; omega)) ?_
  rotate_right
  case refine_1 => exact OwnI.ext1 Ol (by exact extT)
  case refine_2 => exact OwnI.ext1 Or (by exact extT)
  intro vv w3 On hxa
  have X3 : Ext w1 w3 := hxa _ (by exact extT) (by first | omega | (simp; done) | (simp; omega) | (simp only [szA]; omega)); have hz3 := X3.size; clear hxa
  refine hKz.out _ _ (by (try dsimp only); exact extT) (fun hHeld => ?_)
  clear hKz Kz
  (try simp only [redA, Act.put])
  refine wpAnyH_ready (rs := [9]) (by kernel_rfl) (by simp) ?_
  refine AllReadyH.cons rfl (fun Kz hKz => ?_) AllReadyH.nil
  (try simp only [redA])
  go_simp
  refine hKz.out _ _ (by (try dsimp only); exact extT) (fun hHeld => ?_)
  clear hKz Kz
  (try simp only [redA, Act.put])
  refine wpAnyH_done (by kernel_rfl) ?_ _
  have X39 := X3
  have hz3 := X3.size
  have KA3 : Blk w3 w.heap.size 120 #[.int .i64 i, .int .i64 q, .int .i64 k, .int .i64 a, .int .i64 b, .int .i64 c, .int .i64 d] := Blk.ext KA1 X3
  have E3 : Ext w w3 := E1.trans X3
  clear CA1 FA1 LA1
  have CA3 := KA3.cell; have FA3 := KA3.frozen; have LA3 := KA3.lt
  go_wp2_with fail
  go_ret
  exact ⟨_, rfl, by exact extT, On.mono (by first | omega | (simp; done) | (simp; omega) | (simp only [szA]; omega))⟩
 ·
  skip
  (try simp only [redA])
  go_simp
  go_at_call 110
  refine (sOpRow_k _ k a b c d HO.out).mono ?_
  rintro e w2 ⟨_, rfl, hx2, Or⟩
  have X2 : Ext w1 w2 := Ext.trans (by exact extT) hx2; have hz2 := X2.size; have hv2 := hx2.size; (try simp only [szA] at hv2)
  replace Or := OwnI.mono (B' := w.heap.size) Or (by first | omega | (simp; done) | (simp; omega) | (simp only [szA]; omega))
  clear hx2
  refine hKz.out _ _ (by (try dsimp only); exact extT) (fun hHeld => ?_)
  clear hKz Kz
  (try simp only [redA, Act.put])
  refine wpAnyH_ready (rs := [4]) (by kernel_rfl) (by simp) ?_
  refine AllReadyH.cons rfl (fun Kz hKz => ?_) AllReadyH.nil
  (try simp only [redA])
  go_simp
  refine hKz.out _ _ (by (try dsimp only); exact extT) (fun hHeld => ?_)
  clear hKz Kz
  (try simp only [redA, Act.put])
  refine wpAnyH_ready (rs := [8]) (by kernel_rfl) (by simp) ?_
  refine AllReadyH.cons rfl (fun Kz hKz => ?_) AllReadyH.nil
  (try simp only [redA])
  have Ol : OwnI w1.heap.size 2 1 (w2.alloc (.cells #[.int .i64 1, .int .i64 i, .int .i64 q] 2)) (.slice (some ⟨w2.heap.size, 0, none⟩) 3 3) [1, i, q] := OwnI.mono (OwnI.lit w2 2 [1, i, q] (by simp)) (by omega)
  rw [if_pos (by rfl)]; refine wp_appendI (.tmp 11) (.tmp 14) 86 (by rfl) 2 i0 _ 8 Try.underlying86 qi qy0 qy1 qy2 rfl w1.heap.size w.heap.size _ _ [1, i, q] [k, a, b, c, d] (by rfl) ?_ (by rfl) ?_ (by simp) 1000 (by simp) (by unfold maxLen; omega) (by omega) (by first | omega | (simp; done) | (simp; omega) | (simp only [szA]; omega)) ?_
  rotate_right
  case refine_1 => exact OwnI.ext1 Ol (by exact extT)
  case refine_2 => exact OwnI.ext1 Or (by exact extT)
  intro vv w3 On hxa
  have X3 : Ext w1 w3 := hxa _ (by exact extT) (by first | omega | (simp; done) | (simp; omega) | (simp only [szA]; omega)); have hz3 := X3.size; clear hxa
  refine hKz.out _ _ (by (try dsimp only); exact extT) (fun hHeld => ?_)
  clear hKz Kz
  (try simp only [redA, Act.put])
  refine wpAnyH_ready (rs := [9]) (by kernel_rfl) (by simp) ?_
  refine AllReadyH.cons rfl (fun Kz hKz => ?_) AllReadyH.nil
  (try simp only [redA])
  go_simp
  refine hKz.out _ _ (by (try dsimp only); exact extT) (fun hHeld => ?_)
  clear hKz Kz
  (try simp only [redA, Act.put])
  refine wpAnyH_done (by kernel_rfl) ?_ _
  have X39 := X3
  have hz3 := X3.size
  have KA3 : Blk w3 w.heap.size 120 #[.int .i64 i, .int .i64 q, .int .i64 k, .int .i64 a, .int .i64 b, .int .i64 c, .int .i64 d] := Blk.ext KA1 X3
  have E3 : Ext w w3 := E1.trans X3
  clear CA1 FA1 LA1
  have CA3 := KA3.cell; have FA3 := KA3.frozen; have LA3 := KA3.lt
  go_wp2_with fail
  go_ret
  exact ⟨_, rfl, by exact extT, On.mono (by first | omega | (simp; done) | (simp; omega) | (simp only [szA]; omega))⟩

end Go.Proofs.Ythihnangjghloaa

-- Rows of polls and asks (the program).
set_option linter.unusedSimpArgs false
set_option linter.unusedVariables false
namespace Go.Proofs.Ythihnangjghloaa
open Go.RowKit Go.G8

set_option maxHeartbeats 4000000 in
set_option maxRecDepth 100000 in
theorem kindOf_poll (w : World) (i : Int) : Calls Try.prog 144 #[.iface 166 (.int .i64 i)] w (RetV w (.int .i64 8)) := by
 have t0 : ∀ w : World, (Instr.typeAssert (.iface 166 (.int .i64 i)) 191 120 true).run Try.prog w = .ok (.tuple #[.agg #[.int .i64 0, .int .i64 0, .int .i64 0, .int .i64 0, .int .i64 0, .int .i64 0, .int .i64 0], .bool false]) w := fun _ => by kernel_rfl
 have t1 : ∀ w : World, (Instr.typeAssert (.iface 166 (.int .i64 i)) 191 206 true).run Try.prog w = .ok (.tuple #[.agg #[.int .i64 0, .int .i64 0, .int .i64 0, .int .i64 0], .bool false]) w := fun _ => by kernel_rfl
 have t2 : ∀ w : World, (Instr.typeAssert (.iface 166 (.int .i64 i)) 191 207 true).run Try.prog w = .ok (.tuple #[.int .i64 0, .bool false]) w := fun _ => by kernel_rfl
 have t3 : ∀ w : World, (Instr.typeAssert (.iface 166 (.int .i64 i)) 191 209 true).run Try.prog w = .ok (.tuple #[.agg #[.int .i64 0, .int .i64 0, .slice none 0 0], .bool false]) w := fun _ => by kernel_rfl
 have t4 : ∀ w : World, (Instr.typeAssert (.iface 166 (.int .i64 i)) 191 210 true).run Try.prog w = .ok (.tuple #[.int .i64 0, .bool false]) w := fun _ => by kernel_rfl
 have t5 : ∀ w : World, (Instr.typeAssert (.iface 166 (.int .i64 i)) 191 212 true).run Try.prog w = .ok (.tuple #[.agg #[.int .i64 0, .int .i64 0, .int .i64 0, .int .i64 0], .bool false]) w := fun _ => by kernel_rfl
 have t6 : ∀ w : World, (Instr.typeAssert (.iface 166 (.int .i64 i)) 191 214 true).run Try.prog w = .ok (.tuple #[.agg #[.int .i64 0, .int .i64 0, .int .i64 0, .int .i64 0, .int .i64 0], .bool false]) w := fun _ => by kernel_rfl
 have t7 : ∀ w : World, (Instr.typeAssert (.iface 166 (.int .i64 i)) 191 166 true).run Try.prog w = .ok (.tuple #[.int .i64 i, .bool true]) w := fun _ => by kernel_rfl
 go_enter Try.func144, Try.ntmps144
 go_wp2_with fail
 go_ret
 exact ⟨rfl, by exact extT⟩
set_option maxHeartbeats 4000000 in
set_option maxRecDepth 100000 in
theorem valid_poll (w : World) (i : Int) : Calls Try.prog 193 #[.int .i64 i] w (RetV w (.bool (schedOk i))) := by
 have E0 : Ext w w := Ext.refl _
 go_enter Try.func193, Try.ntmps193
 go_wp2_with fail
 refine (schedOk_cP _ i).mono ?_
 rintro e9 w9 ⟨rfl, rfl⟩
 go_wp2_with fail
 go_ret
 exact ⟨by first | rfl | (simp [*]; done), by exact extT⟩
set_option maxHeartbeats 4000000 in
set_option maxRecDepth 100000 in
theorem fields_poll (w : World) (i : Int) : Calls Try.prog 192 #[.int .i64 i] w (Ret w fun r w' => OwnI w.heap.size 2 1 w' r [i]) := by
 have E0 : Ext w w := Ext.refl _
 go_enter Try.func192, Try.ntmps192
 go_wp2_with fail
 go_ret
 exact ⟨_, rfl, by exact extT, (show OwnI _ 2 1 _ _ [i] from OwnI.lit _ 2 [i] (by simp)).mono (by first | omega | (simp; done) | (simp; omega) | (simp only [szA]; omega))⟩
set_option maxHeartbeats 4000000 in
set_option maxRecDepth 100000 in
theorem encoded_poll (w : World) (i : Int) (h : schedOk i = true) : Calls Try.prog 111 #[.iface 166 (.int .i64 i)] w (Ret w fun r w' => OwnI w.heap.size 2 1 w' r (pollL i)) := by
 obtain ⟨i0, qi, qy0, qy1, qy2⟩ := info_parts info_Int64
 have H := Lib.hid h; clear h
 have m_valid : ∀ w : World, (method 191 166 (.int .i64 i) "loop.example/g00851/impl.valid").run Try.prog w = .ok (193, .int .i64 i) w := fun _ => by kernel_rfl
 have m_fields : ∀ w : World, (method 191 166 (.int .i64 i) "loop.example/g00851/impl.fields").run Try.prog w = .ok (192, .int .i64 i) w := fun _ => by kernel_rfl
 have E0 : Ext w w := Ext.refl _
 go_enter Try.func111, Try.ntmps111
 go_wp2_with fail
 refine (valid_poll _ i).mono ?_
 rintro e w1 ⟨rfl, hx1⟩
 have X1 : Ext w w1 := Ext.trans (by exact extT) hx1
 have hz1 := X1.size
 have hy1 := hx1.size; (try simp only [szA] at hy1)
 have E1 : Ext w w1 := E0.trans X1
 clear hx1 X1
 rw [H.out]
 go_wp2_with fail
 refine (kindOf_poll _ i).mono ?_
 rintro e w2 ⟨rfl, hx2⟩
 have X2 : Ext w1 w2 := Ext.trans (by exact extT) hx2
 have hz2 := X2.size
 have hy2 := hx2.size; (try simp only [szA] at hy2)
 have E2 : Ext w w2 := E1.trans X2
 clear hx2 X2 E1
 go_wp2_with fail
 refine (fields_poll _ i).mono ?_
 rintro e w3 ⟨_, rfl, hx3, Of⟩
 have Ol : OwnI w.heap.size 2 1 w3 (.slice (some ⟨w2.heap.size, 0, none⟩) 1 1) [8] := OwnI.ext1 (OwnI.mono (OwnI.lit _ 2 [8] (by simp)) (by first | omega | (simp; done) | (simp; omega) | (simp only [szA]; omega))) hx3
 have E3 : Ext w w3 := Ext.trans (by exact extT) hx3; have hz3 := E3.size
 obtain ⟨af, nf, kf, rfl⟩ := Of.shape
 go_wp2_with (first | (at_builtin; go_loud (refine wp_appendU rfl (.tmp 8) (.tmp 10) 86 (by rfl) 2 i0 _ 1 8 Try.underlying86 qi qy0 qy1 qy2 rfl (by decide) w.heap.size _ _ (by rfl) Ol _ _ (by rfl) Of.ints 1000 (by simp) (by omega) (by omega) (by first | omega | (simp; done) | (simp; omega) | (simp only [szA]; omega)) ?_; rotate_right; intro vv w9 On h3)))
 go_ret
 exact ⟨_, rfl, Ext.own E3 Ol (by omega) h3, On⟩
set_option maxHeartbeats 4000000 in
set_option maxRecDepth 100000 in
theorem pollRow_k (w : World) (i : Int) (h : schedOk i = true) : Calls Try.prog 68 #[.int .i64 i] w (Ret w fun r w' => OwnI w.heap.size 2 1 w' r (pollL i)) := by
 have E0 : Ext w w := Ext.refl _
 go_enter Try.func68, Try.ntmps68
 go_wp2_with fail
 refine (encoded_poll _ i h).mono ?_
 rintro e w1 ⟨_, rfl, hx1, Of⟩
 have X1 : Ext w w1 := Ext.trans (by exact extT) hx1
 have hz1 := X1.size
 have hy1 := hx1.size; (try simp only [szA] at hy1)
 have E1 : Ext w w1 := E0.trans X1
 clear hx1 X1
 go_wp2_with fail
 go_ret
 exact ⟨_, rfl, by exact extT, Of.mono (by first | omega | (simp; done) | (simp; omega) | (simp only [szA]; omega))⟩
set_option maxHeartbeats 4000000 in
set_option maxRecDepth 100000 in
theorem kindOf_Ask (w : World) (i q k a b c d : Int) : Calls Try.prog 144 #[.iface 120 (.agg #[.int .i64 i, .int .i64 q, .int .i64 k, .int .i64 a, .int .i64 b, .int .i64 c, .int .i64 d])] w (RetV w (.int .i64 1)) := by
 have t0 : ∀ w : World, (Instr.typeAssert (.iface 120 (.agg #[.int .i64 i, .int .i64 q, .int .i64 k, .int .i64 a, .int .i64 b, .int .i64 c, .int .i64 d])) 191 120 true).run Try.prog w = .ok (.tuple #[.agg #[.int .i64 i, .int .i64 q, .int .i64 k, .int .i64 a, .int .i64 b, .int .i64 c, .int .i64 d], .bool true]) w := fun _ => by kernel_rfl
 go_enter Try.func144, Try.ntmps144
 go_wp2_with fail
 go_ret
 exact ⟨rfl, by exact extT⟩
set_option maxHeartbeats 4000000 in
set_option maxRecDepth 100000 in
theorem valid_Ask (w : World) (i q k a b c d : Int) : Calls Try.prog 186 #[.agg #[.int .i64 i, .int .i64 q, .int .i64 k, .int .i64 a, .int .i64 b, .int .i64 c, .int .i64 d]] w (RetV w (.bool (askOk (⟨i, q, ⟨k, a, b, c, d⟩⟩ : DAsk)))) := by
 have E0 : Ext w w := Ext.refl _
 go_enter Try.func186, Try.ntmps186
 go_wp2_with fail
 refine (askOk_k _ i q k a b c d).mono ?_
 rintro e w1 ⟨rfl, hx1⟩
 have X1 : Ext w w1 := Ext.trans (by exact extT) hx1
 have hz1 := X1.size
 have hy1 := hx1.size; (try simp only [szA] at hy1)
 have KA1 : Blk w1 w.heap.size 120 #[.int .i64 i, .int .i64 q, .int .i64 k, .int .i64 a, .int .i64 b, .int .i64 c, .int .i64 d] := Blk.ext (Blk.cast (by exact blkT) setsT) hx1
 have E1 : Ext w w1 := E0.trans X1
 clear hx1 X1
 have CA1 := KA1.cell; have FA1 := KA1.frozen; have LA1 := KA1.lt
 go_wp2_with fail
 go_ret
 exact ⟨by first | rfl | (simp [*]; done), by exact extT⟩
set_option maxHeartbeats 4000000 in
set_option maxRecDepth 100000 in
theorem fields_Ask (w : World) (i q k a b c d : Int) : Calls Try.prog 185 #[.agg #[.int .i64 i, .int .i64 q, .int .i64 k, .int .i64 a, .int .i64 b, .int .i64 c, .int .i64 d]] w (Ret w fun r w' => OwnI w.heap.size 2 1 w' r ([i, q] ++ [k, a, b, c, d])) := by
 obtain ⟨i0, qi, qy0, qy1, qy2⟩ := info_parts info_Int64
 have E0 : Ext w w := Ext.refl _
 go_enter Try.func185, Try.ntmps185
 go_wp2_with fail
 have KA0 : Blk (w.alloc (.cells #[.int .i64 i, .int .i64 q, .int .i64 k, .int .i64 a, .int .i64 b, .int .i64 c, .int .i64 d] 120)) w.heap.size 120 #[.int .i64 i, .int .i64 q, .int .i64 k, .int .i64 a, .int .i64 b, .int .i64 c, .int .i64 d] := Blk.new _ _ _
 obtain ⟨w1, hw1⟩ : ∃ w1, w1 = w.alloc (.cells #[.int .i64 i, .int .i64 q, .int .i64 k, .int .i64 a, .int .i64 b, .int .i64 c, .int .i64 d] 120) := ⟨_, rfl⟩
 rw [← hw1] at KA0 ⊢
 have hx1 : Ext w w1 := by rw [hw1]; exact extT
 clear hw1
 have KA1 := KA0; clear KA0; have hz1 := hx1.size; have E1 := hx1; clear hx1
 have LA9 := KA1.lt
 have CA1 := KA1.cell; have FA1 := KA1.frozen; have LA1 := KA1.lt
 refine wp_region_held_drew (S := fun w' => Ext w1 w') (by kernel_rfl) (by (try dsimp only); first | exact Ext.drew (Ext.refl _) | exact extT) (fun hHeld => ?_)
 refine wpAnyH_take (i := 0) (v := ?_) rfl (by kernel_rfl) (by kernel_rfl) (by kernel_rfl) (fun _ _ _ h => h) (Or.inl ⟨by rfl, ?_⟩) (by assumption) ?_
 rotate_left
 focus (intro w hSw; (try dsimp only at hSw); go_simp <;> with_reducible rfl)
 (try simp only [redA, Act.put])
 refine wpAnyH_take (i := 1) (v := ?_) rfl (by kernel_rfl) (by kernel_rfl) (by kernel_rfl) (fun _ _ _ h => h) (Or.inl ⟨by rfl, ?_⟩) (by assumption) ?_
 rotate_left
 focus (intro w hSw; (try dsimp only at hSw); have hq := (KA1.ext hSw).cell; have hq2 := (KA1.ext hSw).lt; go_simp <;> with_reducible rfl)
 (try simp only [redA, Act.put])
 refine wpAnyH_take (i := 2) (v := ?_) rfl (by kernel_rfl) (by kernel_rfl) (by kernel_rfl) (fun _ _ _ h => h) (Or.inl ⟨by rfl, ?_⟩) (by assumption) ?_
 rotate_left
 focus (intro w hSw; (try dsimp only at hSw); go_simp <;> with_reducible rfl)
 (try simp only [redA, Act.put])
 refine wpAnyH_take (i := 3) (v := ?_) rfl (by kernel_rfl) (by kernel_rfl) (by kernel_rfl) (fun _ _ _ h => h) (Or.inl ⟨by rfl, ?_⟩) (by assumption) ?_
 rotate_left
 focus (intro w hSw; (try dsimp only at hSw); have hq := (KA1.ext hSw).cell; have hq2 := (KA1.ext hSw).lt; go_simp <;> with_reducible rfl)
 (try simp only [redA, Act.put])
 refine wpAnyH_take (i := 5) (v := ?_) rfl (by kernel_rfl) (by kernel_rfl) (by kernel_rfl) (fun _ _ _ h => h) (Or.inl ⟨by rfl, ?_⟩) (by assumption) ?_
 rotate_left
 focus (intro w hSw; (try dsimp only at hSw); go_simp <;> with_reducible rfl)
 (try simp only [redA, Act.put])
 refine wpAnyH_take (i := 6) (v := ?_) rfl (by kernel_rfl) (by kernel_rfl) (by kernel_rfl) (fun _ _ _ h => h) (Or.inl ⟨by rfl, ?_⟩) (by assumption) ?_
 rotate_left
 focus (intro w hSw; (try dsimp only at hSw); have hq := (KA1.ext hSw).cell; have hq2 := (KA1.ext hSw).lt; go_simp <;> with_reducible rfl)
 (try simp only [redA, Act.put])
 refine wpAnyH_ready (rs := [4, 7]) (by kernel_rfl) (by simp) ?_
 refine AllReadyH.cons rfl (fun Kz hKz => ?_) (AllReadyH.cons rfl (fun Kz hKz => ?_) AllReadyH.nil)
 ·
  skip
  (try simp only [redA])
  go_simp
  refine hKz.out _ _ (by (try dsimp only); exact extT) (fun hHeld => ?_)
  clear hKz Kz
  (try simp only [redA, Act.put])
  refine wpAnyH_ready (rs := [7]) (by kernel_rfl) (by simp) ?_
  refine AllReadyH.cons rfl (fun Kz hKz => ?_) AllReadyH.nil
  (try simp only [redA])
  go_simp
  go_at_call 181
  refine (numbers_k _ k a b c d).mono ?_
  rintro e w2 ⟨_, rfl, hx2, Or⟩
  have X2 : Ext w1 w2 := Ext.trans (by exact extT) hx2; have hz2 := X2.size; have hv2 := hx2.size; (try simp only [szA] at hv2)
  have Ol0 : OwnI w1.heap.size 2 1 (w1.alloc (.cells #[.int .i64 i, .int .i64 q] 2)) (.slice (some ⟨w1.heap.size, 0, none⟩) 2 2) [i, q] := OwnI.mono (OwnI.lit w1 2 [i, q] (by simp)) (by omega)
  have Ol := OwnI.ext1 Ol0 (Ext.trans (by exact extT) hx2); clear Ol0
  replace Or := OwnI.mono (B' := w.heap.size) Or (by first | omega | (simp; done) | (simp; omega) | (simp only [szA]; omega))
  clear hx2
  refine hKz.out _ _ (by (try dsimp only); exact extT) (fun hHeld => ?_)
  clear hKz Kz
  (try simp only [redA, Act.put])
  refine wpAnyH_ready (rs := [8]) (by kernel_rfl) (by simp) ?_
  refine AllReadyH.cons rfl (fun Kz hKz => ?_) AllReadyH.nil
  (try simp only [redA])
  rw [if_pos (by rfl)]; refine wp_appendI (.tmp 7) (.tmp 10) 86 (by rfl) 2 i0 _ 8 Try.underlying86 qi qy0 qy1 qy2 rfl w1.heap.size w.heap.size _ _ [i, q] [k, a, b, c, d] (by rfl) ?_ (by rfl) ?_ (by simp) 1000 (by simp) (by unfold maxLen; omega) (by omega) (by first | omega | (simp; done) | (simp; omega) | (simp only [szA]; omega)) ?_
  rotate_right
  case refine_1 => exact OwnI.ext1 Ol (by exact extT)
  case refine_2 => exact OwnI.ext1 Or (by exact extT)
  intro vv w3 On hxa
  have X3 : Ext w1 w3 := hxa _ (by exact extT) (by first | omega | (simp; done) | (simp; omega) | (simp only [szA]; omega)); have hz3 := X3.size; clear hxa
  refine hKz.out _ _ (by (try dsimp only); exact extT) (fun hHeld => ?_)
  clear hKz Kz
  (try simp only [redA, Act.put])
  refine wpAnyH_ready (rs := [9]) (by kernel_rfl) (by simp) ?_
  refine AllReadyH.cons rfl (fun Kz hKz => ?_) AllReadyH.nil
  (try simp only [redA])
  go_simp
  refine hKz.out _ _ (by (try dsimp only); exact extT) (fun hHeld => ?_)
  clear hKz Kz
  (try simp only [redA, Act.put])
  refine wpAnyH_done (by kernel_rfl) ?_ _
  have X39 := X3
  have hz3 := X3.size
  have KA3 : Blk w3 w.heap.size 120 #[.int .i64 i, .int .i64 q, .int .i64 k, .int .i64 a, .int .i64 b, .int .i64 c, .int .i64 d] := Blk.ext KA1 X3
  have E3 : Ext w w3 := E1.trans X3
  clear CA1 FA1 LA1
  have CA3 := KA3.cell; have FA3 := KA3.frozen; have LA3 := KA3.lt
  go_wp2_with fail
  go_ret
  exact ⟨_, rfl, by exact extT, On.mono (by first | omega | (simp; done) | (simp; omega) | (simp only [szA]; omega))⟩
 ·
  skip
  (try simp only [redA])
  go_simp
  go_at_call 181
  refine (numbers_k _ k a b c d).mono ?_
  rintro e w2 ⟨_, rfl, hx2, Or⟩
  have X2 : Ext w1 w2 := Ext.trans (by exact extT) hx2; have hz2 := X2.size; have hv2 := hx2.size; (try simp only [szA] at hv2)
  replace Or := OwnI.mono (B' := w.heap.size) Or (by first | omega | (simp; done) | (simp; omega) | (simp only [szA]; omega))
  clear hx2
  refine hKz.out _ _ (by (try dsimp only); exact extT) (fun hHeld => ?_)
  clear hKz Kz
  (try simp only [redA, Act.put])
  refine wpAnyH_ready (rs := [4]) (by kernel_rfl) (by simp) ?_
  refine AllReadyH.cons rfl (fun Kz hKz => ?_) AllReadyH.nil
  (try simp only [redA])
  go_simp
  refine hKz.out _ _ (by (try dsimp only); exact extT) (fun hHeld => ?_)
  clear hKz Kz
  (try simp only [redA, Act.put])
  refine wpAnyH_ready (rs := [8]) (by kernel_rfl) (by simp) ?_
  refine AllReadyH.cons rfl (fun Kz hKz => ?_) AllReadyH.nil
  (try simp only [redA])
  have Ol : OwnI w1.heap.size 2 1 (w2.alloc (.cells #[.int .i64 i, .int .i64 q] 2)) (.slice (some ⟨w2.heap.size, 0, none⟩) 2 2) [i, q] := OwnI.mono (OwnI.lit w2 2 [i, q] (by simp)) (by omega)
  rw [if_pos (by rfl)]; refine wp_appendI (.tmp 7) (.tmp 10) 86 (by rfl) 2 i0 _ 8 Try.underlying86 qi qy0 qy1 qy2 rfl w1.heap.size w.heap.size _ _ [i, q] [k, a, b, c, d] (by rfl) ?_ (by rfl) ?_ (by simp) 1000 (by simp) (by unfold maxLen; omega) (by omega) (by first | omega | (simp; done) | (simp; omega) | (simp only [szA]; omega)) ?_
  rotate_right
  case refine_1 => exact OwnI.ext1 Ol (by exact extT)
  case refine_2 => exact OwnI.ext1 Or (by exact extT)
  intro vv w3 On hxa
  have X3 : Ext w1 w3 := hxa _ (by exact extT) (by first | omega | (simp; done) | (simp; omega) | (simp only [szA]; omega)); have hz3 := X3.size; clear hxa
  refine hKz.out _ _ (by (try dsimp only); exact extT) (fun hHeld => ?_)
  clear hKz Kz
  (try simp only [redA, Act.put])
  refine wpAnyH_ready (rs := [9]) (by kernel_rfl) (by simp) ?_
  refine AllReadyH.cons rfl (fun Kz hKz => ?_) AllReadyH.nil
  (try simp only [redA])
  go_simp
  refine hKz.out _ _ (by (try dsimp only); exact extT) (fun hHeld => ?_)
  clear hKz Kz
  (try simp only [redA, Act.put])
  refine wpAnyH_done (by kernel_rfl) ?_ _
  have X39 := X3
  have hz3 := X3.size
  have KA3 : Blk w3 w.heap.size 120 #[.int .i64 i, .int .i64 q, .int .i64 k, .int .i64 a, .int .i64 b, .int .i64 c, .int .i64 d] := Blk.ext KA1 X3
  have E3 : Ext w w3 := E1.trans X3
  clear CA1 FA1 LA1
  have CA3 := KA3.cell; have FA3 := KA3.frozen; have LA3 := KA3.lt
  go_wp2_with fail
  go_ret
  exact ⟨_, rfl, by exact extT, On.mono (by first | omega | (simp; done) | (simp; omega) | (simp only [szA]; omega))⟩
set_option maxHeartbeats 4000000 in
set_option maxRecDepth 100000 in
theorem encoded_Ask (w : World) (i q k a b c d : Int) (h : askOk (⟨i, q, ⟨k, a, b, c, d⟩⟩ : DAsk) = true) : Calls Try.prog 111 #[.iface 120 (.agg #[.int .i64 i, .int .i64 q, .int .i64 k, .int .i64 a, .int .i64 b, .int .i64 c, .int .i64 d])] w (Ret w fun r w' => OwnI w.heap.size 2 1 w' r (askL (⟨i, q, ⟨k, a, b, c, d⟩⟩ : DAsk))) := by
 obtain ⟨i0, qi, qy0, qy1, qy2⟩ := info_parts info_Int64
 have H := Lib.hid h; clear h
 have m_valid : ∀ w : World, (method 191 120 (.agg #[.int .i64 i, .int .i64 q, .int .i64 k, .int .i64 a, .int .i64 b, .int .i64 c, .int .i64 d]) "loop.example/g00851/impl.valid").run Try.prog w = .ok (186, .agg #[.int .i64 i, .int .i64 q, .int .i64 k, .int .i64 a, .int .i64 b, .int .i64 c, .int .i64 d]) w := fun _ => by kernel_rfl
 have m_fields : ∀ w : World, (method 191 120 (.agg #[.int .i64 i, .int .i64 q, .int .i64 k, .int .i64 a, .int .i64 b, .int .i64 c, .int .i64 d]) "loop.example/g00851/impl.fields").run Try.prog w = .ok (185, .agg #[.int .i64 i, .int .i64 q, .int .i64 k, .int .i64 a, .int .i64 b, .int .i64 c, .int .i64 d]) w := fun _ => by kernel_rfl
 have E0 : Ext w w := Ext.refl _
 go_enter Try.func111, Try.ntmps111
 go_wp2_with fail
 refine (valid_Ask _ i q k a b c d).mono ?_
 rintro e w1 ⟨rfl, hx1⟩
 have X1 : Ext w w1 := Ext.trans (by exact extT) hx1
 have hz1 := X1.size
 have hy1 := hx1.size; (try simp only [szA] at hy1)
 have E1 : Ext w w1 := E0.trans X1
 clear hx1 X1
 rw [H.out]
 go_wp2_with fail
 refine (kindOf_Ask _ i q k a b c d).mono ?_
 rintro e w2 ⟨rfl, hx2⟩
 have X2 : Ext w1 w2 := Ext.trans (by exact extT) hx2
 have hz2 := X2.size
 have hy2 := hx2.size; (try simp only [szA] at hy2)
 have E2 : Ext w w2 := E1.trans X2
 clear hx2 X2 E1
 go_wp2_with fail
 refine (fields_Ask _ i q k a b c d).mono ?_
 rintro e w3 ⟨_, rfl, hx3, Of⟩
 have Ol : OwnI w.heap.size 2 1 w3 (.slice (some ⟨w2.heap.size, 0, none⟩) 1 1) [1] := OwnI.ext1 (OwnI.mono (OwnI.lit _ 2 [1] (by simp)) (by first | omega | (simp; done) | (simp; omega) | (simp only [szA]; omega))) hx3
 have E3 : Ext w w3 := Ext.trans (by exact extT) hx3; have hz3 := E3.size
 obtain ⟨af, nf, kf, rfl⟩ := Of.shape
 go_wp2_with (first | (at_builtin; go_loud (refine wp_appendU rfl (.tmp 8) (.tmp 10) 86 (by rfl) 2 i0 _ 1 8 Try.underlying86 qi qy0 qy1 qy2 rfl (by decide) w.heap.size _ _ (by rfl) Ol _ _ (by rfl) Of.ints 1000 (by simp) (by omega) (by omega) (by first | omega | (simp; done) | (simp; omega) | (simp only [szA]; omega)) ?_; rotate_right; intro vv w9 On h3)))
 go_ret
 exact ⟨_, rfl, Ext.own E3 Ol (by omega) h3, On⟩
set_option maxHeartbeats 4000000 in
set_option maxRecDepth 100000 in
theorem askRow_k (w : World) (i q k a b c d : Int) (h : askOk (⟨i, q, ⟨k, a, b, c, d⟩⟩ : DAsk) = true) : Calls Try.prog 70 #[.agg #[.int .i64 i, .int .i64 q, .int .i64 k, .int .i64 a, .int .i64 b, .int .i64 c, .int .i64 d]] w (Ret w fun r w' => OwnI w.heap.size 2 1 w' r (askL (⟨i, q, ⟨k, a, b, c, d⟩⟩ : DAsk))) := by
 have E0 : Ext w w := Ext.refl _
 go_enter Try.func70, Try.ntmps70
 go_wp2_with fail
 refine (encoded_Ask _ i q k a b c d h).mono ?_
 rintro e w1 ⟨_, rfl, hx1, Of⟩
 have X1 : Ext w w1 := Ext.trans (by exact extT) hx1
 have hz1 := X1.size
 have hy1 := hx1.size; (try simp only [szA] at hy1)
 have KA1 : Blk w1 w.heap.size 120 #[.int .i64 i, .int .i64 q, .int .i64 k, .int .i64 a, .int .i64 b, .int .i64 c, .int .i64 d] := Blk.ext (Blk.cast (by exact blkT) setsT) hx1
 have E1 : Ext w w1 := E0.trans X1
 clear hx1 X1
 have CA1 := KA1.cell; have FA1 := KA1.frozen; have LA1 := KA1.lt
 go_wp2_with fail
 go_ret
 exact ⟨_, rfl, by exact extT, Of.mono (by first | omega | (simp; done) | (simp; omega) | (simp only [szA]; omega))⟩

end Go.Proofs.Ythihnangjghloaa
