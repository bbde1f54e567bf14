/- The parts of a snapshot's rows. -/
import Derived.Test.YtemhbbpbmgpcaaaUn
import Derived.Test.YtemhbbpbmgpcaaaKT
import Derived.Test.YtemhbbpbmgpcaaaP5
import Derived.Test.YtemhbbpbmgpcaaaQ4
set_option linter.unusedSimpArgs false
set_option linter.unusedVariables false
namespace Go.Proofs.Ytemhbbpbmgpcaaa
open Go.RowKit Go.G8

end Go.Proofs.Ytemhbbpbmgpcaaa
namespace Go.G8
open Go.RowKit
def endsOk (r : List Int) : Bool := unsumOk r && (decide (8 ≤ r.length) && (decide (r[r.length - 2]? = r[0]?) && decide (r[r.length - 3]? = r[1]?)))
theorem unsumOk_len {r : List Int} (h : unsumOk r = true) : 1 ≤ r.length ∧ r.length ≤ 48 := by
  simp only [unsumOk, Bool.and_eq_true, decide_eq_true_eq] at h
  exact ⟨h.1, (rowOk_len h.2.1).1⟩
theorem mid_eq {r : List Int} {q : Nat} (hq : q = r.length - 3) : ((r.take (r.length - 1)).take q).drop 4 = mid r := by
  rw [List.drop_take, mid, hq]; congr 1
theorem mid_len (r : List Int) : (mid r).length ≤ r.length := by simp only [mid, List.length_take, List.length_drop]; omega
theorem mids_len (l : List (List Int)) (h : l.all partOk = true) : (l.flatMap mid).length ≤ l.length * 48 := by
  induction l with
  | nil => simp
  | cons x l ih =>
    simp only [List.all_cons, Bool.and_eq_true] at h
    have h1 := ih h.2
    have h2 := mid_len x
    have h3 := h.1
    simp only [partOk, Bool.and_eq_true] at h3
    have h4 := (unsumOk_len h3.1).2
    simp only [List.flatMap_cons, List.length_append, List.length_cons, Nat.add_mul]
    omega
end Go.G8
namespace Go.Proofs.Ytemhbbpbmgpcaaa
open Go.RowKit Go.G8
set_option maxHeartbeats 8000000 in
set_option maxRecDepth 100000 in
theorem gathered_c (w : World) (v : Value) (l : List (List Int)) (h : RdRows w v l) (hr : l.length ≤ 2000000) :
    Calls Try.prog 38 #[v] w (Ret w fun r w' => ∃ a n c, r = .tuple #[.slice a n c, .bool (l.all partOk)] ∧ (l.all partOk = true → OwnI w.heap.size 2 1 w' (.slice a n c) (l.flatMap mid))) := by
  obtain ⟨a, cap, rfl, hcap, hm, ha⟩ := Nest.rows h
  have HA := Lib.hid ha
  clear ha h
  unfold maxLen at hm
  obtain ⟨i0, hi, hz0, hz1, hz2⟩ := info_parts info_Int64
  go_enter Try.func38, Try.ntmps38
  go_wp2_with fail
  go_loopw [4, 12] (fun nums i wr => ∃ k : Nat, k ≤ l.length ∧ i = .int .i64 k ∧ Ext w wr ∧ OwnI w.heap.size 2 1 wr nums ((l.take k).flatMap mid) ∧ Hid ((l.take k).all partOk = true)) (fun _ i _ => l.length - (intOf i).toNat)
  case atStart => exact ⟨0, Nat.zero_le _, rfl, (Ext.refl _).alloc _, show OwnI w.heap.size 2 1 _ _ [] from Own.fresh w 2 1, Lib.hid (by simp)⟩
  case round =>
    obtain ⟨k, hk, rfl, he, hown, hall⟩ := hrel
    obtain ⟨la, ln, lc, rfl⟩ := hown.shape
    have hsz := he.size
    by_cases hlt : k < l.length
    · obtain ⟨r, b1, o1, sa, sn, sc, hr1, rfl, hb1, c0, hin⟩ := HA.out k hlt
      have d0 := he.cell c0
      have HR := Lib.hid hr1; have HO := Lib.hid hown; have HIN := Lib.hid (hin.ext he)
      have hml := mids_len (l.take k) hall.out
      have hkl : (l.take k).length = k := by simp; omega
      rw [hkl] at hml
      have HML := Lib.hid hml
      clear hr1 c0 hown hin hml hkl
      go_wp2_with fail
      refine (unsummed_c _ _ r HIN.out).mono ?_
      rintro e w1 ⟨_, rfl, hx1, ta, tn, tc, rfl, ho⟩
      cases hu : unsumOk r
      · have hp : partOk r = false := by simp [partOk, hu]
        have HP := Lib.hid hp
        clear hp hu ho
        go_wp2_with fail
        go_ret2
        refine ⟨_, rfl, he.trans hx1, _, _, _, by rw [show l.all partOk = false from all_noJ HR.out HP.out]; rfl, fun h => by rw [show l.all partOk = false from all_noJ HR.out HP.out] at h; exact Bool.noConfusion h⟩
      have ho := ho hu
      have hrl := unsumOk_len hu
      obtain ⟨_, _, e9, hlen9, hcap9, _⟩ := ho.ints.one
      injection e9 with e1 e2 e3; subst e1; subst e3
      have htn : tn = r.length - 1 := by rw [e2]; simp
      have hcap9' : tn ≤ tc := by omega
      have htnl : tn ≤ 48 := by omega
      have HTN := Lib.hid htn; have HU := Lib.hid hu
      clear e2 hlen9 hu
      by_cases h7 : 7 ≤ r.length
      rotate_left
      · have hp : partOk r = false := by simp [partOk, h7]
        have HP := Lib.hid hp
        have hd : (tn : Int) < 6 := by omega
        clear hp ho htn
        go_wp2_with fail
        go_ret2
        refine ⟨_, rfl, he.trans hx1, _, _, _, by rw [show l.all partOk = false from all_noJ HR.out HP.out]; rfl, fun h => by rw [show l.all partOk = false from all_noJ HR.out HP.out] at h; exact Bool.noConfusion h⟩
      · have hp : partOk r = true := by simp [partOk, HU.out, h7]
        have HP := Lib.hid hp
        obtain ⟨q, hq⟩ : ∃ q : Nat, q = tn - 2 := ⟨_, rfl⟩
        have hqI : (tn : Int) - 2 = (q : Int) := by omega
        have hd : ¬ (tn : Int) < 6 := by omega
        have hs := (OwnI.ints ho).sliced (l := 4) (m := q) (by omega) (by omega)
        have hc4 : tc ≠ 4 := by omega
        simp only [Go.sliced, if_neg hc4, Nat.mul_one] at hs
        rw [mid_eq (r := r) (by omega)] at hs
        have HS := Lib.hid hs
        have hq4 : 4 ≤ q := by omega
        have hqc : q ≤ tc := by omega
        have hq4' : (4 : Int) ≤ (q : Int) := by omega
        have hqc' : (q : Int) ≤ (tc : Int) := by omega
        have hml2 := mid_len r
        have hl9 : ((l.take k).flatMap mid).length + (mid r).length ≤ 1000000000 := by have := HML.out; omega
        have HL9 := Lib.hid hl9
        clear hp hq ho htn hs hl9 hml2
        go_wp2_with (first | (at_builtin; refine wp_append rfl (.tmp 28) (.tmp 33) 52 rfl 2 i0 _ 1 8 Try.underlying52 hi hz0 hz1 hz2 rfl (by decide) w.heap.size _ _ rfl (Own.ext HO.out hx1) _ ((mid r).map (.int .i64)) rfl HS.out (ints_oneCell _ _) 1000000000 (by rw [List.length_map, List.length_map]; have := HL9.out; omega) (by unfold maxLen; omega) (by omega) (by have := hx1.size; omega) w (he.trans hx1) (Nat.le_refl _) ?_; rotate_right; intro v5 w5 O5 E5 _))
        go_roundw
        case rel => exact ⟨k + 1, by omega, by go_num, E5, by rw [take_snoc HR.out, List.flatMap_append]; simpa [OwnI] using O5, Lib.hid (all_stepJ HR.out hall.out HP.out)⟩
        case measure => simp [intOf]; omega
    · obtain rfl : k = l.length := by omega
      have ha := hall.out
      rw [List.take_length] at ha hown
      have HAL := Lib.hid ha; have HO := Lib.hid hown
      clear ha hown hall
      go_wp2_with fail
      go_ret2
      exact ⟨_, rfl, he, _, _, _, by rw [HAL.out]; rfl, fun _ => HO.out⟩
theorem take_get {r : List Int} {m j : Nat} {x : Int} (h : (r.take m)[j]? = some x) : r[j]? = some x := by
  rw [List.getElem?_take] at h
  split at h
  · exact h
  · cases h
set_option maxHeartbeats 8000000 in
set_option maxRecDepth 100000 in
theorem l18Part_c (w : World) (v : Value) (r : List Int) (h : Ints 1 w v r) :
    Calls Try.prog 34 #[v] w (Ret w fun x w' => ∃ a n c, x = .tuple #[.slice a n c, .bool (endsOk r)] ∧ (endsOk r = true → Ints 1 w' (.slice a n c) (mid r))) := by
  go_enter Try.func34, Try.ntmps34
  go_wp2_with fail
  refine (sUnsummed_c _ _ r h).mono ?_
  rintro e w1 ⟨_, rfl, hx1, ta, tn, tc, rfl, ho⟩
  cases hu : unsumOk r
  · have HU := Lib.hid hu
    clear ho hu
    go_wp2_with fail
    have hne : endsOk r = false := by simp [endsOk, HU.out]
    have HNE := Lib.hid hne
    clear hne
    go_quiet (fail)
    go_wp2_with fail
    go_ret2
    refine ⟨_, rfl, ?_, _, _, _, by rw [HNE.out]; rfl, fun h => by rw [HNE.out] at h; exact Bool.noConfusion h⟩
    repeat' (first | (with_reducible exact Ext.refl _) | (with_reducible assumption) | (with_reducible refine Ext.drewN ?_ _) | (with_reducible refine Ext.drew ?_) | (with_reducible refine Ext.alloc ?_ _) | (with_reducible refine Ext.setCell ?_ ?_ _) | (with_reducible refine Ext.setRow ?_ ?_ _) | (with_reducible exact Nat.le_refl _) | (with_reducible refine Ext.trans ?_ (by assumption)) | omega)
  have ho := ho hu
  have hrl := unsumOk_len hu
  obtain ⟨_, _, e9, hcap9, hm9, hat⟩ := ho.ints.one
  injection e9 with e1 e2 e3; subst e1; subst e3
  have htn : tn = r.length - 1 := by rw [e2]; simp
  rw [← e2] at hcap9 hat
  unfold maxLen at hm9
  have htnl : tn ≤ 48 := by omega
  have HTN := Lib.hid htn; have HU := Lib.hid hu
  clear e2 hu
  by_cases h7 : (tn : Int) < 7
  · have H7 := Lib.hid h7
    clear hat ho htn
    go_wp2_with fail
    have hne : endsOk r = false := by simp only [endsOk, Bool.and_eq_false_iff, decide_eq_false_iff_not]; refine .inr (.inl ?_); have := HTN.out; have := H7.out; omega
    have HNE := Lib.hid hne
    clear hne
    go_quiet (fail)
    go_wp2_with fail
    go_ret2
    refine ⟨_, rfl, ?_, _, _, _, by rw [HNE.out]; rfl, fun h => by rw [HNE.out] at h; exact Bool.noConfusion h⟩
    repeat' (first | (with_reducible exact Ext.refl _) | (with_reducible assumption) | (with_reducible refine Ext.drewN ?_ _) | (with_reducible refine Ext.drew ?_) | (with_reducible refine Ext.alloc ?_ _) | (with_reducible refine Ext.setCell ?_ ?_ _) | (with_reducible refine Ext.setRow ?_ ?_ _) | (with_reducible exact Nat.le_refl _) | (with_reducible refine Ext.trans ?_ (by assumption)) | omega)
  have hd7 : decide ((tn : Int) < 7) = false := by simp only [decide_eq_false_iff_not]; exact h7
  obtain ⟨q1, hq1⟩ : ∃ q1 : Nat, q1 = tn - 1 := ⟨_, rfl⟩
  obtain ⟨q2, hq2⟩ : ∃ q2 : Nat, q2 = tn - 2 := ⟨_, rfl⟩
  have hq1I : (tn : Int) - 1 = (q1 : Int) := by omega
  have hq2I : (tn : Int) - 2 = (q2 : Int) := by omega
  have hw1 : IntKind.i64.wrap (q1 : Int) = (q1 : Int) := by rw [IntKind.wrap_i64]; omega
  have hw2 : IntKind.i64.wrap (q2 : Int) = (q2 : Int) := by rw [IntKind.wrap_i64]; omega
  obtain ⟨x0, b1, o1, g0, rfl, _, c0⟩ := hat 0 (by omega)
  obtain ⟨x1, b1', o1', g1, r2, _, c1⟩ := hat 1 (by omega)
  injection r2 with r2; injection r2 with r2 r3; subst r2; subst r3
  obtain ⟨y1, b1', o1', k1, r2, _, d1⟩ := hat q1 (by omega)
  injection r2 with r2; injection r2 with r2 r3; subst r2; subst r3
  obtain ⟨y2, b1', o1', k2, r2, _, d2⟩ := hat q2 (by omega)
  injection r2 with r2; injection r2 with r2 r3; subst r2; subst r3
  simp only [Nat.add_zero] at c0
  have g0 := take_get g0; have g1 := take_get g1; have k1 := take_get k1; have k2 := take_get k2
  rw [show q1 = r.length - 2 by omega] at k1
  rw [show q2 = r.length - 3 by omega] at k2
  have G0 := Lib.hid g0; have G1 := Lib.hid g1; have K1 := Lib.hid k1; have K2 := Lib.hid k2
  have hb1 : q1 < tn := by omega
  have hb2 : q2 < tn := by omega
  have hb3 : (0 : Int) < (tn : Int) := by omega
  have hb4 : (1 : Int) < (tn : Int) := by omega
  have h8 : 8 ≤ r.length := by omega
  have hc4 : tc ≠ 4 := by omega
  have hs := (OwnI.ints ho).sliced (l := 4) (m := q2) (by omega) (by omega)
  simp only [Go.sliced, if_neg hc4, Nat.mul_one, Option.map_some, add_lit0] at hs
  rw [mid_eq (r := r) (by omega)] at hs
  have HS := Lib.hid hs; have H8 := Lib.hid h8
  have hq4 : (4 : Int) ≤ (q2 : Int) := by omega
  have hqc : (q2 : Int) ≤ (tc : Int) := by omega
  have hq4n : 4 ≤ q2 := by omega
  have hqcn : q2 ≤ tc := by omega
  clear hat ho htn hq1 hq2 g0 g1 k1 k2 hs h8 hrl
  by_cases ha : y1 = x0
  rotate_left
  · have hab : (y1 != x0) = true := by simp [ha]
    have hab2 : (y1 == x0) = false := by simp [ha]
    have hab3 : decide (y1 = x0) = false := by simp [ha]
    have HA := Lib.hid ha
    go_wp2_with fail
    have hne : endsOk r = false := by simp only [endsOk, Bool.and_eq_false_iff, decide_eq_false_iff_not]; refine .inr (.inr (.inl ?_)); rw [K1.out, G0.out]; intro e; exact HA.out (Option.some.inj e)
    have HNE := Lib.hid hne
    clear hne
    refine wp_region_ext (by kernel_rfl) (by kernel_rfl) ?_
    repeat (first | go_big_quiet_skip | (go_big_quiet_want; first | (refine quiet_load _ _ _ ?_ rfl rfl (fun wq hq => ?_) ?_; rotate_left; (focus (have z0 := hq.cell c0; have z1 := hq.cell c1; have z2 := hq.cell d1; have z3 := hq.cell d2; go_simp; first | done | rfl)); (try simp only [Act.put, List.setIfInBounds_toArray, List.set_cons_zero, List.set_cons_succ]); go_big_quiet_on) | (go_big_quiet_op; first | go_big_quiet_on | (refine ⟨_, fun _ _ => rfl, ?_⟩; go_big_quiet_on) | (apply Exists.intro; refine ⟨fun wq hq => ?_, ?_⟩; (focus (fail)); go_big_quiet_on))))
    refine wpQuiet_nil ?_
    intro w2 hx2
    go_wp2_with fail
    go_ret2
    refine ⟨_, rfl, ?_, _, _, _, by rw [HNE.out]; rfl, fun h => by rw [HNE.out] at h; exact Bool.noConfusion h⟩
    repeat' (first | (with_reducible exact Ext.refl _) | (with_reducible assumption) | (with_reducible refine Ext.drewN ?_ _) | (with_reducible refine Ext.drew ?_) | (with_reducible refine Ext.alloc ?_ _) | (with_reducible refine Ext.setCell ?_ ?_ _) | (with_reducible refine Ext.setRow ?_ ?_ _) | (with_reducible exact Nat.le_refl _) | (with_reducible refine Ext.trans ?_ (by assumption)) | omega)
  subst ha
  by_cases hb : y2 = x1
  rotate_left
  · have hab : (y2 != x1) = true := by simp [hb]
    have hab2 : (y2 == x1) = false := by simp [hb]
    have HA := Lib.hid hb
    clear hb
    go_wp2_with fail
    have hne : endsOk r = false := by simp only [endsOk, Bool.and_eq_false_iff, decide_eq_false_iff_not]; refine .inr (.inr (.inr ?_)); rw [K2.out, G1.out]; intro e; exact HA.out (Option.some.inj e)
    have HNE := Lib.hid hne
    clear hne
    refine wp_region_ext (by kernel_rfl) (by kernel_rfl) ?_
    repeat (first | go_big_quiet_skip | (go_big_quiet_want; first | (refine quiet_load _ _ _ ?_ rfl rfl (fun wq hq => ?_) ?_; rotate_left; (focus (have z0 := hq.cell c0; have z1 := hq.cell c1; have z2 := hq.cell d1; have z3 := hq.cell d2; go_simp; first | done | rfl)); (try simp only [Act.put, List.setIfInBounds_toArray, List.set_cons_zero, List.set_cons_succ]); go_big_quiet_on) | (go_big_quiet_op; first | go_big_quiet_on | (refine ⟨_, fun _ _ => rfl, ?_⟩; go_big_quiet_on) | (apply Exists.intro; refine ⟨fun wq hq => ?_, ?_⟩; (focus (fail)); go_big_quiet_on))))
    refine wpQuiet_nil ?_
    intro w2 hx2
    go_wp2_with fail
    go_ret2
    refine ⟨_, rfl, ?_, _, _, _, by rw [HNE.out]; rfl, fun h => by rw [HNE.out] at h; exact Bool.noConfusion h⟩
    repeat' (first | (with_reducible exact Ext.refl _) | (with_reducible assumption) | (with_reducible refine Ext.drewN ?_ _) | (with_reducible refine Ext.drew ?_) | (with_reducible refine Ext.alloc ?_ _) | (with_reducible refine Ext.setCell ?_ ?_ _) | (with_reducible refine Ext.setRow ?_ ?_ _) | (with_reducible exact Nat.le_refl _) | (with_reducible refine Ext.trans ?_ (by assumption)) | omega)
  subst hb
  have hy : endsOk r = true := by
    simp only [endsOk, Bool.and_eq_true, decide_eq_true_eq]
    exact ⟨HU.out, H8.out, by rw [K1.out, G0.out], by rw [K2.out, G1.out]⟩
  have HY := Lib.hid hy
  clear hy
  go_wp2_with fail
  go_quiet (fail)
  go_wp2_with fail
  go_ret2
  refine ⟨_, rfl, ?_, _, _, _, by rw [HY.out]; rfl, fun _ => HS.out.ext ?_⟩
  · repeat' (first | (with_reducible exact Ext.refl _) | (with_reducible assumption) | (with_reducible refine Ext.drewN ?_ _) | (with_reducible refine Ext.drew ?_) | (with_reducible refine Ext.alloc ?_ _) | (with_reducible refine Ext.setCell ?_ ?_ _) | (with_reducible refine Ext.setRow ?_ ?_ _) | (with_reducible exact Nat.le_refl _) | (with_reducible refine Ext.trans ?_ (by assumption)) | omega)
  · repeat' (first | (with_reducible exact Ext.refl _) | (with_reducible assumption) | (with_reducible refine Ext.drewN ?_ _) | (with_reducible refine Ext.drew ?_) | (with_reducible refine Ext.alloc ?_ _) | (with_reducible refine Ext.setCell ?_ ?_ _) | (with_reducible refine Ext.setRow ?_ ?_ _) | (with_reducible exact Nat.le_refl _) | (with_reducible refine Ext.trans ?_ (by assumption)) | omega)

end Go.Proofs.Ytemhbbpbmgpcaaa
