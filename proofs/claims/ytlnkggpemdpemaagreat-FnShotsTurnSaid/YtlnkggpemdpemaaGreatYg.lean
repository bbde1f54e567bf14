/- Contracts and plain laws: RS Cu Cu2 NS RS2 NS2 NS3 RS3 RS4. -/
import Derived.Test.YtlnkggpemdpemaaGreatYa
import Derived.Test.YtlnkggpemdpemaaGreatYv
import Derived.Test.YtlnkggpemdpemaaGreatYe
import Derived.Test.YtlnkggpemdpemaaGreatYd
import Derived.Test.YtlnkggpemdpemaaGreatYf
import Derived.Test.YtlnkggpemdpemaaGreatYb
set_option linter.unusedSimpArgs false
set_option linter.unusedVariables false
set_option maxHeartbeats 8000000
set_option maxRecDepth 100000
namespace Go.G8
open Go.RowKit
def endsOk (r : List Int) : Bool := unsumOk r && (decide (8 ≤ r.length) && (decide (r[r.length - 2]? = r[0]?) && decide (r[r.length - 3]? = r[1]?)))
theorem unsumOk_len {r : List Int} (h : unsumOk r = true) : 1 ≤ r.length ∧ r.length ≤ 48 := by
 simp only [unsumOk, Bool.and_eq_true, decide_eq_true_eq] at h
 exact ⟨h.1, (rowOk_len h.2.1).1⟩
theorem mid_eq {r : List Int} {q : Nat} (hq : q = r.length - 3) : ((r.take (r.length - 1)).take q).drop 4 = mid r := by
 rw [List.drop_take, mid, hq]; congr 1
theorem mid_len (r : List Int) : (mid r).length ≤ r.length := by simp only [mid, List.length_take, List.length_drop]; omega
theorem mids_len (l : List (List Int)) (h : l.all partOk = true) : (l.flatMap mid).length ≤ l.length * 48 := by
 induction l with
 | nil => simp
 | cons x l ih =>
  simp only [List.all_cons, Bool.and_eq_true] at h
  have h1 := ih h.2
  have h2 := mid_len x
  have h3 := h.1
  simp only [partOk, Bool.and_eq_true] at h3
  have h4 := (unsumOk_len h3.1).2
  simp only [List.flatMap_cons, List.length_append, List.length_cons, Nat.add_mul]
  omega
end Go.G8
namespace Go.Proofs.YtlnkggpemdpemaaGreat
open Go.RowKit Go.G8
theorem gathered_c (w : World) (v : Value) (l : List (List Int)) (h : RdRows w v l) (hr : l.length ≤ 2000000) :
  Calls Tryz.prog 119 #[v] w (Ret w fun r w' => ∃ a n c, r = .tuple #[.slice a n c, .bool (l.all partOk)] ∧ (l.all partOk = true → OwnI w.heap.size 2 1 w' (.slice a n c) (l.flatMap mid))) := by
 obtain ⟨a, cap, rfl, hcap, hm, ha⟩ := Nest.rows h
 have HA := Lib.hid ha
 clear ha h
 unfold maxLen at hm
 obtain ⟨i0, hi, hz0, hz1, hz2⟩ := info_parts info_Int64
 go_enter Tryz.func119, Tryz.ntmps119
 go_wp2_with fail
 go_loopw [4, 12] (fun nums i wr => ∃ k : Nat, k ≤ l.length ∧ i = .int .i64 k ∧ Ext w wr ∧ OwnI w.heap.size 2 1 wr nums ((l.take k).flatMap mid) ∧ Hid ((l.take k).all partOk = true)) (fun _ i _ => l.length - (intOf i).toNat)
 case atStart => exact ⟨0, Nat.zero_le _, rfl, (Ext.refl _).alloc _, show OwnI w.heap.size 2 1 _ _ [] from Own.fresh w 2 1, Lib.hid (by simp)⟩
 case round =>
  obtain ⟨k, hk, rfl, he, hown, hall⟩ := hrel
  obtain ⟨la, ln, lc, rfl⟩ := hown.shape
  have hsz := he.size
  by_cases hlt : k < l.length
  ·
   obtain ⟨r, b1, o1, sa, sn, sc, hr1, rfl, hb1, c0, hin⟩ := HA.out k hlt
   have d0 := he.cell c0
   have HR := Lib.hid hr1; have HO := Lib.hid hown; have HIN := Lib.hid (hin.ext he)
   have hml := mids_len (l.take k) hall.out
   have hkl : (l.take k).length = k := by simp; omega
   rw [hkl] at hml
   have HML := Lib.hid hml
   clear hr1 c0 hown hin hml hkl
   go_wp2_with fail
   refine (unsummed_c _ _ r HIN.out).mono ?_
   rintro e w1 ⟨_, rfl, hx1, ta, tn, tc, rfl, ho⟩
   cases hu : unsumOk r
   ·
    have hp : partOk r = false := by simp [partOk, hu]
    have HP := Lib.hid hp
    clear hp hu ho
    go_wp2_with fail
    go_ret2
    refine ⟨_, rfl, he.trans hx1, _, _, _, by rw [show l.all partOk = false from all_noJ HR.out HP.out]; rfl, fun h => by rw [show l.all partOk = false from all_noJ HR.out HP.out] at h; exact Bool.noConfusion h⟩
   have ho := ho hu
   have hrl := unsumOk_len hu
   obtain ⟨_, _, e9, hlen9, hcap9, _⟩ := ho.ints.one
   injection e9 with e1 e2 e3; subst e1; subst e3
   have htn : tn = r.length - 1 := by rw [e2]; simp
   have hcap9' : tn ≤ tc := by omega
   have htnl : tn ≤ 48 := by omega
   have HTN := Lib.hid htn; have HU := Lib.hid hu
   clear e2 hlen9 hu
   by_cases h7 : 7 ≤ r.length
   rotate_left
   ·
    have hp : partOk r = false := by simp [partOk, h7]
    have HP := Lib.hid hp
    have hd : (tn : Int) < 6 := by omega
    clear hp ho htn
    go_wp2_with fail
    go_ret2
    refine ⟨_, rfl, he.trans hx1, _, _, _, by rw [show l.all partOk = false from all_noJ HR.out HP.out]; rfl, fun h => by rw [show l.all partOk = false from all_noJ HR.out HP.out] at h; exact Bool.noConfusion h⟩
   have hp : partOk r = true := by simp [partOk, HU.out, h7]
   have HP := Lib.hid hp
   obtain ⟨q, hq⟩ : ∃ q : Nat, q = tn - 2 := ⟨_, rfl⟩
   have hqI : (tn : Int) - 2 = (q : Int) := by omega
   have hd : ¬ (tn : Int) < 6 := by omega
   have hs := (OwnI.ints ho).sliced (l := 4) (m := q) oM oM
   have hc4 : tc ≠ 4 := by omega
   simp only [Go.sliced, if_neg hc4, Nat.mul_one] at hs
   rw [mid_eq (r := r) oM] at hs
   have HS := Lib.hid hs
   have hq4 : 4 ≤ q := by omega
   have hqc : q ≤ tc := by omega
   have hq4' : (4 : Int) ≤ (q : Int) := by omega
   have hqc' : (q : Int) ≤ (tc : Int) := by omega
   have hml2 := mid_len r
   have hl9 : ((l.take k).flatMap mid).length + (mid r).length ≤ 1000000000 := by have := HML.out; omega
   have HL9 := Lib.hid hl9
   clear hp hq ho htn hs hl9 hml2
   go_wp2_with (first | (at_builtin; refine wp_append rfl (.tmp 28) (.tmp 33) 49 rfl 2 i0 _ 1 8 Tryz.underlying49 hi hz0 hz1 hz2 rfl dC w.heap.size _ _ rfl (Own.ext HO.out hx1) _ ((mid r).map (.int .i64)) rfl HS.out (ints_oneCell _ _) 1000000000 (by rw [List.length_map, List.length_map]; have := HL9.out; omega) (by unfold maxLen; omega) oM (by have := hx1.size; omega) w (he.trans hx1) (Nat.le_refl _) ?_; rotate_right; intro v5 w5 O5 E5 _))
   go_roundw
   case rel => exact ⟨k + 1, by omega, by go_num, E5, by rw [take_snoc HR.out, List.flatMap_append]; simpa [OwnI] using O5, Lib.hid (all_stepJ HR.out hall.out HP.out)⟩
   case measure => simp [intOf]; omega
  obtain rfl : k = l.length := by omega
  have ha := hall.out
  rw [List.take_length] at ha hown
  have HAL := Lib.hid ha; have HO := Lib.hid hown
  clear ha hown hall
  go_wp2_with fail
  go_ret2
  exact ⟨_, rfl, he, _, _, _, by rw [HAL.out]; rfl, fun _ => HO.out⟩
theorem take_get {r : List Int} {m j : Nat} {x : Int} (h : (r.take m)[j]? = some x) : r[j]? = some x := by
 rw [List.getElem?_take] at h
 split at h
 ·
  exact h
 cases h
theorem l18Part_c (w : World) (v : Value) (r : List Int) (h : Ints 1 w v r) :
  Calls Tryz.prog 122 #[v] w (Ret w fun x w' => ∃ a n c, x = .tuple #[.slice a n c, .bool (endsOk r)] ∧ (endsOk r = true → Ints 1 w' (.slice a n c) (mid r))) := by
 go_enter Tryz.func122, Tryz.ntmps122
 go_wp2_with fail
 refine (sUnsummed_c _ _ r h).mono ?_
 rintro e w1 ⟨_, rfl, hx1, ta, tn, tc, rfl, ho⟩
 cases hu : unsumOk r
 ·
  have HU := Lib.hid hu
  clear ho hu
  go_wp2_with fail
  have hne : endsOk r = false := by simp [endsOk, HU.out]
  have HNE := Lib.hid hne
  clear hne
  go_quiet (fail)
  go_wp2_with fail
  go_ret2
  refine ⟨_, rfl, ?_, _, _, _, by rw [HNE.out]; rfl, fun h => by rw [HNE.out] at h; exact Bool.noConfusion h⟩
  exact xT
 have ho := ho hu
 have hrl := unsumOk_len hu
 obtain ⟨_, _, e9, hcap9, hm9, hat⟩ := ho.ints.one
 injection e9 with e1 e2 e3; subst e1; subst e3
 have htn : tn = r.length - 1 := by rw [e2]; simp
 rw [← e2] at hcap9 hat
 unfold maxLen at hm9
 have htnl : tn ≤ 48 := by omega
 have HTN := Lib.hid htn; have HU := Lib.hid hu
 clear e2 hu
 by_cases h7 : (tn : Int) < 7
 ·
  have H7 := Lib.hid h7
  clear hat ho htn
  go_wp2_with fail
  have hne : endsOk r = false := by simp only [endsOk, Bool.and_eq_false_iff, decide_eq_false_iff_not]; refine .inr (.inl ?_); have := HTN.out; have := H7.out; omega
  have HNE := Lib.hid hne
  clear hne
  go_quiet (fail)
  go_wp2_with fail
  go_ret2
  refine ⟨_, rfl, ?_, _, _, _, by rw [HNE.out]; rfl, fun h => by rw [HNE.out] at h; exact Bool.noConfusion h⟩
  exact xT
 have hd7 : decide ((tn : Int) < 7) = false := by simp only [decide_eq_false_iff_not]; exact h7
 obtain ⟨q1, hq1⟩ : ∃ q1 : Nat, q1 = tn - 1 := ⟨_, rfl⟩
 obtain ⟨q2, hq2⟩ : ∃ q2 : Nat, q2 = tn - 2 := ⟨_, rfl⟩
 have hq1I : (tn : Int) - 1 = (q1 : Int) := by omega
 have hq2I : (tn : Int) - 2 = (q2 : Int) := by omega
 have hw1 : IntKind.i64.wrap (q1 : Int) = (q1 : Int) := by rw [IntKind.wrap_i64]; omega
 have hw2 : IntKind.i64.wrap (q2 : Int) = (q2 : Int) := by rw [IntKind.wrap_i64]; omega
 obtain ⟨x0, b1, o1, g0, rfl, _, c0⟩ := hat 0 oM
 obtain ⟨x1, b1', o1', g1, r2, _, c1⟩ := hat 1 oM
 injection r2 with r2; injection r2 with r2 r3; subst r2; subst r3
 obtain ⟨y1, b1', o1', k1, r2, _, d1⟩ := hat q1 oM
 injection r2 with r2; injection r2 with r2 r3; subst r2; subst r3
 obtain ⟨y2, b1', o1', k2, r2, _, d2⟩ := hat q2 oM
 injection r2 with r2; injection r2 with r2 r3; subst r2; subst r3
 simp only [Nat.add_zero] at c0
 have g0 := take_get g0; have g1 := take_get g1; have k1 := take_get k1; have k2 := take_get k2
 rw [show q1 = r.length - 2 by omega] at k1
 rw [show q2 = r.length - 3 by omega] at k2
 have G0 := Lib.hid g0; have G1 := Lib.hid g1; have K1 := Lib.hid k1; have K2 := Lib.hid k2
 have hb1 : q1 < tn := by omega
 have hb2 : q2 < tn := by omega
 have hb3 : (0 : Int) < (tn : Int) := by omega
 have hb4 : (1 : Int) < (tn : Int) := by omega
 have h8 : 8 ≤ r.length := by omega
 have hc4 : tc ≠ 4 := by omega
 have hs := (OwnI.ints ho).sliced (l := 4) (m := q2) oM oM
 simp only [Go.sliced, if_neg hc4, Nat.mul_one, Option.map_some, add_lit0] at hs
 rw [mid_eq (r := r) oM] at hs
 have HS := Lib.hid hs; have H8 := Lib.hid h8
 have hq4 : (4 : Int) ≤ (q2 : Int) := by omega
 have hqc : (q2 : Int) ≤ (tc : Int) := by omega
 have hq4n : 4 ≤ q2 := by omega
 have hqcn : q2 ≤ tc := by omega
 clear hat ho htn hq1 hq2 g0 g1 k1 k2 hs h8 hrl
 by_cases ha : y1 = x0
 rotate_left
 ·
  have hab : (y1 != x0) = true := by simp [ha]
  have hab2 : (y1 == x0) = false := by simp [ha]
  have hab3 : decide (y1 = x0) = false := by simp [ha]
  have HA := Lib.hid ha
  go_wp2_with fail
  have hne : endsOk r = false := by simp only [endsOk, Bool.and_eq_false_iff, decide_eq_false_iff_not]; refine .inr (.inr (.inl ?_)); rw [K1.out, G0.out]; intro e; exact HA.out (Option.some.inj e)
  have HNE := Lib.hid hne
  clear hne
  refine wp_region_ext (by kernel_rfl) (by kernel_rfl) ?_
  repeat (first | go_big_quiet_skip | (go_big_quiet_want; first | (refine quiet_load _ _ _ ?_ rfl rfl (fun wq hq => ?_) ?_; rotate_left; (focus (have z0 := hq.cell c0; have z1 := hq.cell c1; have z2 := hq.cell d1; have z3 := hq.cell d2; go_simp; first | done | rfl)); (try simp only [redA, Act.put]); go_big_quiet_on) | (go_big_quiet_op; first | go_big_quiet_on | (refine ⟨_, fun _ _ => rfl, ?_⟩; go_big_quiet_on) | (apply Exists.intro; refine ⟨fun wq hq => ?_, ?_⟩; (focus (fail)); go_big_quiet_on))))
  refine wpQuiet_nil ?_
  intro w2 hx2
  go_wp2_with fail
  go_ret2
  refine ⟨_, rfl, ?_, _, _, _, by rw [HNE.out]; rfl, fun h => by rw [HNE.out] at h; exact Bool.noConfusion h⟩
  exact xT
 subst ha
 by_cases hb : y2 = x1
 rotate_left
 ·
  have hab : (y2 != x1) = true := by simp [hb]
  have hab2 : (y2 == x1) = false := by simp [hb]
  have HA := Lib.hid hb
  clear hb
  go_wp2_with fail
  have hne : endsOk r = false := by simp only [endsOk, Bool.and_eq_false_iff, decide_eq_false_iff_not]; refine .inr (.inr (.inr ?_)); rw [K2.out, G1.out]; intro e; exact HA.out (Option.some.inj e)
  have HNE := Lib.hid hne
  clear hne
  refine wp_region_ext (by kernel_rfl) (by kernel_rfl) ?_
  repeat (first | go_big_quiet_skip | (go_big_quiet_want; first | (refine quiet_load _ _ _ ?_ rfl rfl (fun wq hq => ?_) ?_; rotate_left; (focus (have z0 := hq.cell c0; have z1 := hq.cell c1; have z2 := hq.cell d1; have z3 := hq.cell d2; go_simp; first | done | rfl)); (try simp only [redA, Act.put]); go_big_quiet_on) | (go_big_quiet_op; first | go_big_quiet_on | (refine ⟨_, fun _ _ => rfl, ?_⟩; go_big_quiet_on) | (apply Exists.intro; refine ⟨fun wq hq => ?_, ?_⟩; (focus (fail)); go_big_quiet_on))))
  refine wpQuiet_nil ?_
  intro w2 hx2
  go_wp2_with fail
  go_ret2
  refine ⟨_, rfl, ?_, _, _, _, by rw [HNE.out]; rfl, fun h => by rw [HNE.out] at h; exact Bool.noConfusion h⟩
  exact xT
 subst hb
 have hy : endsOk r = true := by
  simp only [endsOk, Bool.and_eq_true, decide_eq_true_eq]
  exact ⟨HU.out, H8.out, by rw [K1.out, G0.out], by rw [K2.out, G1.out]⟩
 have HY := Lib.hid hy
 clear hy
 go_wp2_with fail
 go_quiet (fail)
 go_wp2_with fail
 go_ret2
 refine ⟨_, rfl, ?_, _, _, _, by rw [HY.out]; rfl, fun _ => HS.out.ext ?_⟩
 ·
  exact xT
 exact xT
theorem next_some (w Wa : World) (X : Nat) (a : Option Addr) (c : Nat) (L : List Int) (p : Nat) (hK : Blk w X 159 #[.slice a L.length c, .int .i64 (p : Int)]) (hL : Ints 1 Wa (.slice a L.length c) L) (hE : Ext Wa w) (hX : Wa.heap.size ≤ X) (hl : L.length ≤ 100000000000) (hp : p < L.length) :
  Calls Tryz.prog 179 #[.pointer (some ⟨X, 0, none⟩)] w (fun e w' => ∃ x, L[p]? = some x ∧ e = .returned (.tuple #[.int .i64 x, .bool true]) ∧ Blk w' X 159 #[.slice a L.length c, .int .i64 ((p + 1 : Nat) : Int)] ∧ Upd w w' [X]) := by
 obtain ⟨_, _, e9, hcap, hm, hat⟩ := hL.one
 injection e9 with e1 _ e3; subst e1; subst e3
 unfold maxLen at hm
 obtain ⟨x, b1, o1, hx, rfl, hb1, cc⟩ := hat p hp
 have d0 := hE.cell cc
 have CK := hK.cell; have FK := hK.frozen
 have hbX : b1 < X := by omega
 have hpI : decide ((L.length : Int) ≤ (p : Int)) = false := by simp; omega
 have HX := Lib.hid hx
 have hXl := hK.lt
 clear hx hat cc hL
 go_enter Tryz.func179, Tryz.ntmps179
 go_wp2
 go_quiet (fail)
 go_wp2
 go_quiet (fail)
 go_wp2
 go_ret2
 refine ⟨x, HX.out, rfl, ?_, ?_⟩
 ·
  refine Blk.cast (by repeat' (first | (with_reducible assumption) | (with_reducible apply Blk.drewN) | (with_reducible apply Blk.set_))) (by simp)
 exact ((((Upd.refl w [X]).ext (Ext.drewN (Ext.refl _) _)).setCell (by simp) _).ext (Ext.drewN (Ext.refl _) _))
theorem next_none (w Wa : World) (X : Nat) (a : Option Addr) (c : Nat) (L : List Int) (p : Nat) (hK : Blk w X 159 #[.slice a L.length c, .int .i64 (p : Int)]) (hL : Ints 1 Wa (.slice a L.length c) L) (hE : Ext Wa w) (hX : Wa.heap.size ≤ X) (hl : L.length ≤ 100000000000) (hp : L.length ≤ p) (hp2 : p ≤ 200000000000) :
  Calls Tryz.prog 179 #[.pointer (some ⟨X, 0, none⟩)] w (fun e w' => e = .returned (.tuple #[.int .i64 0, .bool false]) ∧ Upd w w' [X]) := by
 obtain ⟨_, _, e9, hcap, hm, hat⟩ := hL.one
 injection e9 with e1 _ e3; subst e1; subst e3
 unfold maxLen at hm
 have CK := hK.cell; have FK := hK.frozen
 have hpI : decide ((L.length : Int) ≤ (p : Int)) = true := by simp; omega
 have hXl := hK.lt
 clear hat hL
 go_enter Tryz.func179, Tryz.ntmps179
 go_wp2
 go_quiet (fail)
 go_wp2
 rename_i nq
 go_ret2
 exact ⟨rfl, (Upd.refl w [X]).ext (Ext.drewN (Ext.refl _) _)⟩
theorem done_c (w Wa : World) (X : Nat) (a : Option Addr) (c : Nat) (L : List Int) (p : Nat) (hK : Blk w X 159 #[.slice a L.length c, .int .i64 (p : Int)]) (hL : Ints 1 Wa (.slice a L.length c) L) (hE : Ext Wa w) (hX : Wa.heap.size ≤ X) (hl : L.length ≤ 100000000000) (hp2 : p ≤ 200000000000) :
  Calls Tryz.prog 156 #[.pointer (some ⟨X, 0, none⟩)] w (RetV w (.bool (decide (p = L.length)))) := by
 obtain ⟨_, _, e9, hcap, hm, hat⟩ := hL.one
 injection e9 with e1 _ e3; subst e1; subst e3
 unfold maxLen at hm
 have CK := hK.cell; have FK := hK.frozen
 have hXl := hK.lt
 clear hat hL
 by_cases hp : p = L.length
 ·
  have hpI : ((p : Int) == (L.length : Int)) = true := by simp; omega
  have hd : decide (p = L.length) = true := by simp [hp]
  rw [hd]
  have HP := Lib.hid hp
  clear hp hd
  go_enter Tryz.func156, Tryz.ntmps156
  go_wp2
  go_quiet (fail)
  go_wp2
  go_ret
  exact ⟨rfl, Ext.drewN (Ext.refl _) _⟩
 have hpI : ((p : Int) == (L.length : Int)) = false := by simp; omega
 have hd : decide (p = L.length) = false := by simp [hp]
 rw [hd]
 have HP := Lib.hid hp
 clear hp hd
 go_enter Tryz.func156, Tryz.ntmps156
 go_wp2
 go_quiet (fail)
 go_wp2
 go_ret
 exact ⟨rfl, Ext.drewN (Ext.refl _) _⟩
theorem take_some (w Wa : World) (X : Nat) (a : Option Addr) (c : Nat) (L : List Int) (p : Nat) (hK : Blk w X 159 #[.slice a L.length c, .int .i64 (p : Int)]) (hL : Ints 1 Wa (.slice a L.length c) L) (hE : Ext Wa w) (hX : Wa.heap.size ≤ X) (hl : L.length ≤ 100000000000) (n : Nat) (hn : p + n ≤ L.length) (hn1 : n ≤ 1000000) :
  Calls Tryz.prog 153 #[.pointer (some ⟨X, 0, none⟩), .int .i64 (n : Int)] w (fun e w' => ∃ ra rn rc, e = .returned (.tuple #[.slice ra rn rc, .bool true]) ∧ OwnI w.heap.size 2 1 w' (.slice ra rn rc) ((L.take (p + n)).drop p) ∧ Blk w' X 159 #[.slice a L.length c, .int .i64 ((p + n : Nat) : Int)] ∧ Upd w w' [X]) := by
 obtain ⟨_, _, e9, hcap, hm, hat⟩ := hL.one
 injection e9 with e1 _ e3; subst e1; subst e3
 unfold maxLen at hm
 have CK := hK.cell; have FK := hK.frozen
 have CK0 : w.cell? ⟨X, 0, none⟩ = some (.slice a L.length c) := hK.cell 0
 have CK1 : w.cell? ⟨X, 1, none⟩ = some (.int .i64 (p : Int)) := hK.cell 1
 obtain ⟨d, hd⟩ : ∃ d : Nat, d = L.length - p := ⟨_, rfl⟩
 have hsub : (L.length : Int) - (p : Int) = ((d : Nat) : Int) := by omega
 have hdn : n ≤ d := by omega
 have hdl : d ≤ 100000000000 := by omega
 obtain ⟨m, hm'⟩ : ∃ m : Nat, m = p + n := ⟨_, rfl⟩
 have hpn : (p : Int) + (n : Int) = ((m : Nat) : Int) := by omega
 have hpl : m ≤ 200000000000 := by omega
 have hpm : p ≤ m := by omega
 rw [← hm'] at hn ⊢
 have hXl := hK.lt
 have hsl := hL.sliced (l := p) (m := m) hpm hn
 simp only [Go.sliced, Nat.mul_one] at hsl
 have hmc : m ≤ c := by omega
 have hi0 : (0 : Int) ≤ (p : Int) := by omega
 have hwm : IntKind.i64.wrap (m : Int) = (m : Int) := by rw [IntKind.wrap_i64]; omega
 have hi1 : (p : Int) ≤ (m : Int) := by omega
 have hi2 : (m : Int) ≤ (c : Int) := by omega
 have HK := Lib.hid hK
 have hll : ((L.take m).drop p).length ≤ 1000000 := by simp; omega
 have HM := Lib.hid hm'
 clear hat hL hd hm'
 by_cases hcp : c = p
 ·
  rw [if_pos hcp, show m - p = 0 by omega, show c - p = 0 by omega] at hsl
  have HCP := Lib.hid hcp
  have hj1 : (m : Int) ≤ (p : Int) := by omega
  have hj2 : m ≤ p := by omega
  have HSL := Lib.hid hsl
  clear hsl
  go_enter Tryz.func153, Tryz.ntmps153
  go_wp2
  go_quiet (fail)
  go_wp2_with fail
  any_goals (exfalso; (rename (_ ∨ _) => hq); rw [IntKind.wrap_i64] at hq; omega)
  go_region_held3 (fun w' => w'.cell? ⟨X, 0, none⟩ = some (.slice a L.length c) ∧ w'.cell? ⟨X, 1, none⟩ = some (.int .i64 (p : Int))) (first | (refine ⟨Ext.cell (w := w) ?_ CK0, Ext.cell (w := w) ?_ CK1⟩ <;> (exact xT); done)) (first | (go_at_call 101; refine (copyRow_c _ _ _ (HSL.out.ext (Ext.trans hE xT)) hll).mono ?_; rintro e wa ⟨_, rfl, hxa, ga⟩; obtain ⟨ta, tn, tc, rfl⟩ := ga.shape; have hxw : Ext w wa := Ext.trans xT hxa))
  all_goals
   have KA := HK.out.ext hxw
   have CA := KA.cell; have FA := KA.frozen; have hXa := KA.lt
   clear CK FK CK0 CK1
   go_wp2_with fail
   go_ret2
   have hga : OwnI w.heap.size 2 1 wa (.slice ta tn tc) ((L.take m).drop p) := OwnI.mono ga (by simp)
   refine ⟨ta, tn, tc, rfl, OwnI.keep hga ((Chg.refl _ _).setLow hXl _), ?_, ((Upd.refl w [X]).ext hxw).setCell (by simp) _⟩
   have := KA.set_ 1 (.int .i64 ((m : Nat) : Int))
   simpa using this
 rw [if_neg hcp] at hsl
 have HSL := Lib.hid hsl
 clear hsl
 go_enter Tryz.func153, Tryz.ntmps153
 go_wp2
 go_quiet (fail)
 go_wp2_with fail
 any_goals (exfalso; (rename (_ ∨ _) => hq); rw [IntKind.wrap_i64] at hq; omega)
 go_region_held3 (fun w' => w'.cell? ⟨X, 0, none⟩ = some (.slice a L.length c) ∧ w'.cell? ⟨X, 1, none⟩ = some (.int .i64 (p : Int))) (first | (refine ⟨Ext.cell (w := w) ?_ CK0, Ext.cell (w := w) ?_ CK1⟩ <;> (exact xT); done)) (first | (go_at_call 101; refine (copyRow_c _ _ _ (HSL.out.ext (Ext.trans hE xT)) hll).mono ?_; rintro e wa ⟨_, rfl, hxa, ga⟩; obtain ⟨ta, tn, tc, rfl⟩ := ga.shape; have hxw : Ext w wa := Ext.trans xT hxa))
 all_goals
  have KA := HK.out.ext hxw
  have CA := KA.cell; have FA := KA.frozen; have hXa := KA.lt
  clear CK FK CK0 CK1
  go_wp2_with fail
  go_ret2
  have hga : OwnI w.heap.size 2 1 wa (.slice ta tn tc) ((L.take m).drop p) := OwnI.mono ga (by simp)
  refine ⟨ta, tn, tc, rfl, OwnI.keep hga ((Chg.refl _ _).setLow hXl _), ?_, ((Upd.refl w [X]).ext hxw).setCell (by simp) _⟩
  have := KA.set_ 1 (.int .i64 ((m : Nat) : Int))
  simpa using this
theorem take_none (w Wa : World) (X : Nat) (a : Option Addr) (c : Nat) (L : List Int) (p : Nat) (hK : Blk w X 159 #[.slice a L.length c, .int .i64 (p : Int)]) (hL : Ints 1 Wa (.slice a L.length c) L) (hE : Ext Wa w) (hX : Wa.heap.size ≤ X) (hl : L.length ≤ 100000000000) (n : Nat) (hn : L.length < p + n) (hp : p ≤ L.length) (hn2 : n ≤ 100000000000) :
  Calls Tryz.prog 153 #[.pointer (some ⟨X, 0, none⟩), .int .i64 (n : Int)] w (fun e w' => e = .returned (.tuple #[.slice none 0 0, .bool false]) ∧ Upd w w' [X]) := by
 obtain ⟨_, _, e9, hcap, hm, hat⟩ := hL.one
 injection e9 with e1 _ e3; subst e1; subst e3
 unfold maxLen at hm
 have CK := hK.cell; have FK := hK.frozen
 obtain ⟨d, hd⟩ : ∃ d : Nat, d = L.length - p := ⟨_, rfl⟩
 have hsub : (L.length : Int) - (p : Int) = ((d : Nat) : Int) := by omega
 have hdn : d < n := by omega
 have hdl : d ≤ 100000000000 := by omega
 have hXl := hK.lt
 clear hat hL hd
 go_enter Tryz.func153, Tryz.ntmps153
 go_wp2
 go_quiet (fail)
 go_wp2_with fail
 any_goals (exfalso; (rename (_ ∧ _) => hq); rw [IntKind.wrap_i64] at hq; omega)
 go_ret2
 exact ⟨rfl, (Upd.refl w [X]).ext (Ext.drewN (Ext.refl _) _)⟩
end Go.Proofs.YtlnkggpemdpemaaGreat
namespace Go.G8
open Go.RowKit
def slLen : Value → Nat
 | .slice _ n _ => n
 | _ => 0
end Go.G8
namespace Go.Proofs.YtlnkggpemdpemaaGreat
open Go.RowKit Go.G8
theorem takePairs_c (w Wa : World) (X : Nat) (a : Option Addr) (c : Nat) (L : List Int) (p : Nat) (hK : Blk w X 159 #[.slice a L.length c, .int .i64 (p : Int)]) (hL : Ints 1 Wa (.slice a L.length c) L) (hE : Ext Wa w) (hX : Wa.heap.size ≤ X) (hl : L.length ≤ 100000000000) (hp0 : p ≤ L.length) :
  Calls Tryz.prog 154 #[.pointer (some ⟨X, 0, none⟩)] w (fun e w' => Upd w w' [X] ∧ ((∃ l ra rn rc, okP L p l ∧ e = .returned (.tuple #[.slice ra rn rc, .bool true]) ∧ OwnI w.heap.size 113 2 w' (.slice ra rn rc) (flPair l) ∧ Blk w' X 159 #[.slice a L.length c, .int .i64 ((p + 1 + 2 * l.length : Nat) : Int)]) ∨ ((∀ l, ¬ okP L p l) ∧ ∃ ra rn rc, e = .returned (.tuple #[.slice ra rn rc, .bool false])))) := by
 have hXl := hK.lt
 by_cases hp : p < L.length
 rotate_left
 ·
  have HP := Lib.hid hp
  clear hp
  go_enter Tryz.func154, Tryz.ntmps154
  go_wp2_with fail
  refine (next_none _ Wa X a c L p hK hL hE hX hl (by have := HP.out; omega) oM).mono ?_
  rintro e w1 ⟨rfl, hy1⟩
  go_wp2_with fail
  go_ret2
  exact ⟨hy1, .inr ⟨fun l h => by have := okP_len h; have := HP.out; omega, _, _, _, rfl⟩⟩
 go_enter Tryz.func154, Tryz.ntmps154
 go_wp2_with fail
 refine (next_some _ Wa X a c L p hK hL hE hX hl hp).mono ?_
 rintro e w1 ⟨x, hx, rfl, K1, hy1⟩
 have hz1 := hy1.size
 have HX := Lib.hid hx
 clear hx
 go_wp2_with fail
 refine (between_c _ x 0 10).mono ?_
 rintro e w1' ⟨rfl, rfl⟩
 cases hb : inb x 0 10
 ·
  go_wp2_with fail
  go_ret2
  exact ⟨hy1, .inr ⟨fun l h => by have h1 := h.1; rw [HX.out] at h1; have h2 := Option.some.inj h1; have h3 := h.2.1; rw [h2] at hb; rw [inb_of oM oM] at hb; exact Bool.noConfusion hb, _, _, _, rfl⟩⟩
 obtain ⟨hx0, hx1⟩ := inb_true.1 hb
 obtain ⟨n, rfl⟩ := Int.eq_ofNat_of_zero_le hx0
 clear hb
 have hE1 : Ext Wa w1 := hE.upd_below hy1 (fun q hq => by simp at hq; omega)
 obtain ⟨m, hm⟩ : ∃ m : Nat, m = 2 * n := ⟨_, rfl⟩
 have hmI : 2 * (n : Int) = (m : Int) := by omega
 have hml : m ≤ 1000 := by omega
 have HM := Lib.hid hm
 clear hm hx0
 obtain ⟨i0, hi, hz0, hzz1, hzz2⟩ := info_parts info_Pair
 go_wp2_with fail
 by_cases hq : p + 1 + m ≤ L.length
 rotate_left
 ·
  refine (take_none _ Wa X a c L (p + 1) K1 hL hE1 hX hl m oM oM oM).mono ?_
  rintro e w2 ⟨rfl, hy2⟩
  have hz2 := hy2.size
  have HQ := Lib.hid hq
  clear hq
  go_wp2_with fail
  go_loopw [6, 8] (fun part lv wr => part = .slice none 0 0 ∧ (∃ ra rn rc, lv = .slice ra rn rc) ∧ Upd w wr [X]) (fun part _ _ => slLen part)
  case atStart => exact ⟨rfl, ⟨_, _, _, rfl⟩, (hy1.trans hy2).alloc _⟩
  case round =>
   obtain ⟨rfl, ⟨ra, rn, rc, rfl⟩, hyr⟩ := hrel
   go_wp2_with fail
   go_ret2
   exact ⟨hyr, .inr ⟨fun l h => by
    have h1 := h.1; rw [HX.out] at h1; have h2 := Option.some.inj h1
    have := okP_len h; have := HQ.out; have := HM.out; omega, _, _, _, rfl⟩⟩
 refine (take_some _ Wa X a c L (p + 1) K1 hL hE1 hX hl m hq oM).mono ?_
 rintro e w2 ⟨ra, rn, rc, rfl, o2, K2, hy2⟩
 have hz2 := hy2.size
 obtain ⟨ps, hok, hpl⟩ := okP_of (L := L) (p := p) (n := n) HX.out oM (by have := HM.out; omega)
 have hxs : (L.take (p + 1 + m)).drop (p + 1) = flPair ps := by
  rw [← hok.2.2, hpl, ← HM.out, List.drop_take]; congr 1; omega
 rw [hxs] at o2
 subst hpl
 have HOK := Lib.hid hok
 clear hok hxs
 obtain ⟨W3, hW3⟩ : ∃ W3, W3 = w2.alloc (.cells #[] 113) := ⟨_, rfl⟩
 have hE3 : Ext w2 W3 := by rw [hW3]; exact (Ext.refl _).alloc _
 have hs3 : W3.heap.size = w2.heap.size + 1 := by rw [hW3]; simp
 have hO3 : OwnI w2.heap.size 113 2 W3 (.slice (some ⟨w2.heap.size, 0, none⟩) 0 0) (flPair (ps.take 0)) := by rw [hW3]; exact Own.fresh w2 113 2
 have HW3 := Lib.hid hW3
 have hrn : rn = 2 * ps.length := by
  obtain ⟨_, _, e9, _⟩ := o2.ints.one
  injection e9 with _ e2 _
  rw [e2, length_flPair]; omega
 have HRN := Lib.hid hrn
 have hpart : Ints 1 w2 (.slice ra rn rc) (flPair (ps.drop 0)) := o2.ints
 clear hrn
 clear hW3 o2
 go_wp2_with fail
 rw [← HW3.out]
 go_loopw [6, 8] (fun part lv wr => ∃ k : Nat, k ≤ ps.length ∧ Ext w2 wr ∧ (∃ pa pn pc, part = .slice pa pn pc ∧ pn = 2 * (ps.length - k) ∧ Ints 1 w2 (.slice pa pn pc) (flPair (ps.drop k))) ∧ OwnI w2.heap.size 113 2 wr lv (flPair (ps.take k))) (fun part _ _ => slLen part)
 case atStart => exact ⟨0, Nat.zero_le _, hE3, ⟨_, _, _, rfl, by simpa using HRN.out, hpart⟩, hO3⟩
 case round =>
  obtain ⟨k, hk, he, ⟨pa, pn, pc, rfl, hpn, hI⟩, hown⟩ := hrel
  obtain ⟨la, ln, lc, rfl⟩ := hown.shape
  have hsz := he.size
  by_cases hlt : k < ps.length
  ·
   obtain ⟨d, hd⟩ : ∃ d, ps[k]? = some d := ⟨_, List.getElem?_eq_getElem hlt⟩
   obtain ⟨h1, h2⟩ := List.getElem?_eq_some_iff.1 hd
   have hdr : ps.drop k = d :: ps.drop (k + 1) := by rw [← h2]; exact List.drop_eq_getElem_cons h1
   rw [hdr] at hI
   obtain ⟨_, _, _, e9, hlen9, hcap9, hm9, hnil9, hat9⟩ := hI
   injection e9 with e1 e2 e3; subst e1; subst e2; subst e3
   obtain ⟨b1, o1, rfl⟩ : ∃ b1 o1, pa = some ⟨b1, o1, none⟩ := by
    cases hpa : pa with
    | none => have := hnil9 hpa; simp at hlen9; omega
    | some q => obtain ⟨b, o, sp⟩ := q; obtain ⟨rfl, _⟩ := hat9 b o sp hpa oM; exact ⟨b, o, rfl⟩
   obtain ⟨_, hbl, hcc⟩ := hat9 b1 o1 none rfl oM
   have hI' : Ints 1 w2 (.slice (some ⟨b1, o1, none⟩) pn pc) ([d.Key, d.Value] ++ flPair (ps.drop (k + 1))) := ⟨_, _, _, rfl, hlen9, hcap9, hm9, hnil9, hat9⟩
   have hnx := hI'.sliced (l := 2) (m := pn) oM (Nat.le_refl _)
   have hnl : ([d.Key, d.Value] ++ flPair (ps.drop (k + 1))).length = pn := by simp at hlen9 ⊢; simpa [flPair, DPair.ints] using hlen9
   rw [List.take_of_length_le oM, show ([d.Key, d.Value] ++ flPair (ps.drop (k + 1))).drop 2 = flPair (ps.drop (k + 1)) from rfl] at hnx
   simp only [Go.sliced, Nat.mul_one] at hnx
   have x0 : w2.cell? ⟨b1, o1, none⟩ = some (.int .i64 d.Key) := by have := hcc 0 (.int .i64 d.Key) (by simp [flPair, DPair.ints]); simpa using this
   have d0 := he.cell x0
   have x1 : w2.cell? ⟨b1, o1 + 1, none⟩ = some (.int .i64 d.Value) := by have := hcc 1 (.int .i64 d.Value) (by simp [flPair, DPair.ints]); simpa using this
   have d1 := he.cell x1
   unfold maxLen at hm9
   have hpos : decide (((pn : Nat) : Int) > 0) = true := by simp; omega
   have hp2 : (0 : Int) < (pn : Int) := by omega
   have hq0 : (0 : Int) < (pn : Int) := by omega
   have hr0 : 0 < pn := by omega
   have hq1 : (1 : Int) < (pn : Int) := by omega
   have hr1 : 1 < pn := by omega
   have HD := Lib.hid hd; have HO := Lib.hid hown; have HNX := Lib.hid hnx; have HPN := Lib.hid hpn
   have hlk : (flPair (ps.take k)).length = k * 2 := by rw [length_flPair, List.length_take]; congr 1; omega
   clear hd hown hnx hcc hat9 hI' hlen9 hnl hnil9 hpn h2 hdr
   go_wp2_with fail
   go_region_held3 (fun w' => w'.cell? ⟨b1, o1, none⟩ = some (.int .i64 d.Key) ∧ w'.cell? ⟨b1, o1 + 1, none⟩ = some (.int .i64 d.Value)) (first | (refine ⟨Ext.cell (w := w2) ?_ x0, Ext.cell (w := w2) ?_ x1⟩ <;> (exact xT); done)) (first | (refine step_append_own rfl (.tmp 34) (.tmp 42) 34 rfl 113 i0 _ 2 16 Tryz.underlying34 hi hz0 hzz1 hzz2 rfl dC w2.heap.size (.slice la ln lc) _ rfl (Own.ext HO.out xT) ⟨wr.heap.size, 0, none⟩ 1 1 ([d.Key, d.Value].map (.int .i64)) rfl (by simp) (fun j u hu => by rw [add_lit0, Nat.zero_add, ((Blk.new wr _ _).drew).cell]; simpa using hu) (ints_oneCell _ _) oM 1000 (by simp [hlk]; omega) (by unfold maxLen; omega) oM (by simp; omega) ?_; intro v3 wa hown1 hga; have hxa : Ext w2 wa := Ext.own (v := .slice la ln lc) (he.trans xT) (Own.ext HO.out xT) (Nat.le_refl _) hga))
   all_goals
    have hown3 : OwnI w2.heap.size 113 2 wa v3 (flPair (ps.take k) ++ [d.Key, d.Value]) := by simpa [OwnI] using hown1
    go_wp2_with fail
    go_roundw
    case rel => exact ⟨k + 1, by omega, hxa, ⟨_, _, _, rfl, by have := HPN.out; omega, by first | exact HNX.out | (have h9 := HNX.out; simpa using h9)⟩, by rw [take_snoc HD.out, flPair_snoc]; exact hown3⟩
    case measure => simp [slLen]; omega
  obtain rfl : k = ps.length := by omega
  rw [List.take_length] at hown
  have hpn0 : pn = 0 := by omega
  clear hpn hI
  subst hpn0
  go_wp2_with fail
  go_ret2
  refine ⟨(hy1.trans hy2).ext he, .inl ⟨ps, la, ln, lc, HOK.out, rfl, OwnI.mono hown oM, ?_⟩⟩
  have h9 := K2.ext he
  rw [HM.out] at h9
  exact h9
theorem takeJobs_c (w Wa : World) (X : Nat) (a : Option Addr) (c : Nat) (L : List Int) (p : Nat) (hK : Blk w X 159 #[.slice a L.length c, .int .i64 (p : Int)]) (hL : Ints 1 Wa (.slice a L.length c) L) (hE : Ext Wa w) (hX : Wa.heap.size ≤ X) (hl : L.length ≤ 100000000000) (hp0 : p ≤ L.length) :
  Calls Tryz.prog 155 #[.pointer (some ⟨X, 0, none⟩)] w (fun e w' => Upd w w' [X] ∧ ((∃ l ra rn rc, okJ L p l ∧ e = .returned (.tuple #[.slice ra rn rc, .bool true]) ∧ OwnI w.heap.size 95 5 w' (.slice ra rn rc) (flJob l) ∧ Blk w' X 159 #[.slice a L.length c, .int .i64 ((p + 1 + 5 * l.length : Nat) : Int)]) ∨ ((∀ l, ¬ okJ L p l) ∧ ∃ ra rn rc, e = .returned (.tuple #[.slice ra rn rc, .bool false])))) := by
 have hXl := hK.lt
 by_cases hp : p < L.length
 rotate_left
 ·
  have HP := Lib.hid hp
  clear hp
  go_enter Tryz.func155, Tryz.ntmps155
  go_wp2_with fail
  refine (next_none _ Wa X a c L p hK hL hE hX hl (by have := HP.out; omega) oM).mono ?_
  rintro e w1 ⟨rfl, hy1⟩
  go_wp2_with fail
  go_ret2
  exact ⟨hy1, .inr ⟨fun l h => by have := okJ_len h; have := HP.out; omega, _, _, _, rfl⟩⟩
 go_enter Tryz.func155, Tryz.ntmps155
 go_wp2_with fail
 refine (next_some _ Wa X a c L p hK hL hE hX hl hp).mono ?_
 rintro e w1 ⟨x, hx, rfl, K1, hy1⟩
 have hz1 := hy1.size
 have HX := Lib.hid hx
 clear hx
 go_wp2_with fail
 refine (between_c _ x 0 8).mono ?_
 rintro e w1' ⟨rfl, rfl⟩
 cases hb : inb x 0 8
 ·
  go_wp2_with fail
  go_ret2
  exact ⟨hy1, .inr ⟨fun l h => by have h1 := h.1; rw [HX.out] at h1; have h2 := Option.some.inj h1; have h3 := h.2.1; rw [h2] at hb; rw [inb_of oM oM] at hb; exact Bool.noConfusion hb, _, _, _, rfl⟩⟩
 obtain ⟨hx0, hx1⟩ := inb_true.1 hb
 obtain ⟨n, rfl⟩ := Int.eq_ofNat_of_zero_le hx0
 clear hb
 have hE1 : Ext Wa w1 := hE.upd_below hy1 (fun q hq => by simp at hq; omega)
 obtain ⟨m, hm⟩ : ∃ m : Nat, m = 5 * n := ⟨_, rfl⟩
 have hmI : 5 * (n : Int) = (m : Int) := by omega
 have hml : m ≤ 1000 := by omega
 have HM := Lib.hid hm
 clear hm hx0
 obtain ⟨i0, hi, hz0, hzz1, hzz2⟩ := info_parts info_Job
 go_wp2_with fail
 by_cases hq : p + 1 + m ≤ L.length
 rotate_left
 ·
  refine (take_none _ Wa X a c L (p + 1) K1 hL hE1 hX hl m oM oM oM).mono ?_
  rintro e w2 ⟨rfl, hy2⟩
  have hz2 := hy2.size
  have HQ := Lib.hid hq
  clear hq
  go_wp2_with fail
  go_loopw [6, 8] (fun part lv wr => part = .slice none 0 0 ∧ (∃ ra rn rc, lv = .slice ra rn rc) ∧ Upd w wr [X]) (fun part _ _ => slLen part)
  case atStart => exact ⟨rfl, ⟨_, _, _, rfl⟩, (hy1.trans hy2).alloc _⟩
  case round =>
   obtain ⟨rfl, ⟨ra, rn, rc, rfl⟩, hyr⟩ := hrel
   go_wp2_with fail
   go_ret2
   exact ⟨hyr, .inr ⟨fun l h => by
    have h1 := h.1; rw [HX.out] at h1; have h2 := Option.some.inj h1
    have := okJ_len h; have := HQ.out; have := HM.out; omega, _, _, _, rfl⟩⟩
 refine (take_some _ Wa X a c L (p + 1) K1 hL hE1 hX hl m hq oM).mono ?_
 rintro e w2 ⟨ra, rn, rc, rfl, o2, K2, hy2⟩
 have hz2 := hy2.size
 obtain ⟨ps, hok, hpl⟩ := okJ_of (L := L) (p := p) (n := n) HX.out oM (by have := HM.out; omega)
 have hxs : (L.take (p + 1 + m)).drop (p + 1) = flJob ps := by
  rw [← hok.2.2, hpl, ← HM.out, List.drop_take]; congr 1; omega
 rw [hxs] at o2
 subst hpl
 have HOK := Lib.hid hok
 clear hok hxs
 obtain ⟨W3, hW3⟩ : ∃ W3, W3 = w2.alloc (.cells #[] 95) := ⟨_, rfl⟩
 have hE3 : Ext w2 W3 := by rw [hW3]; exact (Ext.refl _).alloc _
 have hs3 : W3.heap.size = w2.heap.size + 1 := by rw [hW3]; simp
 have hO3 : OwnI w2.heap.size 95 5 W3 (.slice (some ⟨w2.heap.size, 0, none⟩) 0 0) (flJob (ps.take 0)) := by rw [hW3]; exact Own.fresh w2 95 5
 have HW3 := Lib.hid hW3
 have hrn : rn = 5 * ps.length := by
  obtain ⟨_, _, e9, _⟩ := o2.ints.one
  injection e9 with _ e2 _
  rw [e2, length_flJob]; omega
 have HRN := Lib.hid hrn
 have hpart : Ints 1 w2 (.slice ra rn rc) (flJob (ps.drop 0)) := o2.ints
 clear hrn
 clear hW3 o2
 go_wp2_with fail
 rw [← HW3.out]
 go_loopw [6, 8] (fun part lv wr => ∃ k : Nat, k ≤ ps.length ∧ Ext w2 wr ∧ (∃ pa pn pc, part = .slice pa pn pc ∧ pn = 5 * (ps.length - k) ∧ Ints 1 w2 (.slice pa pn pc) (flJob (ps.drop k))) ∧ OwnI w2.heap.size 95 5 wr lv (flJob (ps.take k))) (fun part _ _ => slLen part)
 case atStart => exact ⟨0, Nat.zero_le _, hE3, ⟨_, _, _, rfl, by simpa using HRN.out, hpart⟩, hO3⟩
 case round =>
  obtain ⟨k, hk, he, ⟨pa, pn, pc, rfl, hpn, hI⟩, hown⟩ := hrel
  obtain ⟨la, ln, lc, rfl⟩ := hown.shape
  have hsz := he.size
  by_cases hlt : k < ps.length
  ·
   obtain ⟨d, hd⟩ : ∃ d, ps[k]? = some d := ⟨_, List.getElem?_eq_getElem hlt⟩
   obtain ⟨h1, h2⟩ := List.getElem?_eq_some_iff.1 hd
   have hdr : ps.drop k = d :: ps.drop (k + 1) := by rw [← h2]; exact List.drop_eq_getElem_cons h1
   rw [hdr] at hI
   obtain ⟨_, _, _, e9, hlen9, hcap9, hm9, hnil9, hat9⟩ := hI
   injection e9 with e1 e2 e3; subst e1; subst e2; subst e3
   obtain ⟨b1, o1, rfl⟩ : ∃ b1 o1, pa = some ⟨b1, o1, none⟩ := by
    cases hpa : pa with
    | none => have := hnil9 hpa; simp at hlen9; omega
    | some q => obtain ⟨b, o, sp⟩ := q; obtain ⟨rfl, _⟩ := hat9 b o sp hpa oM; exact ⟨b, o, rfl⟩
   obtain ⟨_, hbl, hcc⟩ := hat9 b1 o1 none rfl oM
   have hI' : Ints 1 w2 (.slice (some ⟨b1, o1, none⟩) pn pc) ([d.Id, d.Due, d.Key, d.Value, d.Fired] ++ flJob (ps.drop (k + 1))) := ⟨_, _, _, rfl, hlen9, hcap9, hm9, hnil9, hat9⟩
   have hnx := hI'.sliced (l := 5) (m := pn) oM (Nat.le_refl _)
   have hnl : ([d.Id, d.Due, d.Key, d.Value, d.Fired] ++ flJob (ps.drop (k + 1))).length = pn := by simp at hlen9 ⊢; simpa [flJob, DJob.ints] using hlen9
   rw [List.take_of_length_le oM, show ([d.Id, d.Due, d.Key, d.Value, d.Fired] ++ flJob (ps.drop (k + 1))).drop 5 = flJob (ps.drop (k + 1)) from rfl] at hnx
   simp only [Go.sliced, Nat.mul_one] at hnx
   have x0 : w2.cell? ⟨b1, o1, none⟩ = some (.int .i64 d.Id) := by have := hcc 0 (.int .i64 d.Id) (by simp [flJob, DJob.ints]); simpa using this
   have d0 := he.cell x0
   have x1 : w2.cell? ⟨b1, o1 + 1, none⟩ = some (.int .i64 d.Due) := by have := hcc 1 (.int .i64 d.Due) (by simp [flJob, DJob.ints]); simpa using this
   have d1 := he.cell x1
   have x2 : w2.cell? ⟨b1, o1 + 2, none⟩ = some (.int .i64 d.Key) := by have := hcc 2 (.int .i64 d.Key) (by simp [flJob, DJob.ints]); simpa using this
   have d2 := he.cell x2
   have x3 : w2.cell? ⟨b1, o1 + 3, none⟩ = some (.int .i64 d.Value) := by have := hcc 3 (.int .i64 d.Value) (by simp [flJob, DJob.ints]); simpa using this
   have d3 := he.cell x3
   have x4 : w2.cell? ⟨b1, o1 + 4, none⟩ = some (.int .i64 d.Fired) := by have := hcc 4 (.int .i64 d.Fired) (by simp [flJob, DJob.ints]); simpa using this
   have d4 := he.cell x4
   unfold maxLen at hm9
   have hpos : decide (((pn : Nat) : Int) > 0) = true := by simp; omega
   have hp2 : (0 : Int) < (pn : Int) := by omega
   have hq0 : (0 : Int) < (pn : Int) := by omega
   have hr0 : 0 < pn := by omega
   have hq1 : (1 : Int) < (pn : Int) := by omega
   have hr1 : 1 < pn := by omega
   have hq2 : (2 : Int) < (pn : Int) := by omega
   have hr2 : 2 < pn := by omega
   have hq3 : (3 : Int) < (pn : Int) := by omega
   have hr3 : 3 < pn := by omega
   have hq4 : (4 : Int) < (pn : Int) := by omega
   have hr4 : 4 < pn := by omega
   have HD := Lib.hid hd; have HO := Lib.hid hown; have HNX := Lib.hid hnx; have HPN := Lib.hid hpn
   have hlk : (flJob (ps.take k)).length = k * 5 := by rw [length_flJob, List.length_take]; congr 1; omega
   clear hd hown hnx hcc hat9 hI' hlen9 hnl hnil9 hpn h2 hdr
   go_wp2_with fail
   go_region_held3 (fun w' => w'.cell? ⟨b1, o1, none⟩ = some (.int .i64 d.Id) ∧ w'.cell? ⟨b1, o1 + 1, none⟩ = some (.int .i64 d.Due) ∧ w'.cell? ⟨b1, o1 + 2, none⟩ = some (.int .i64 d.Key) ∧ w'.cell? ⟨b1, o1 + 3, none⟩ = some (.int .i64 d.Value) ∧ w'.cell? ⟨b1, o1 + 4, none⟩ = some (.int .i64 d.Fired)) (first | (refine ⟨Ext.cell (w := w2) ?_ x0, Ext.cell (w := w2) ?_ x1, Ext.cell (w := w2) ?_ x2, Ext.cell (w := w2) ?_ x3, Ext.cell (w := w2) ?_ x4⟩ <;> (exact xT); done)) (first | (refine step_append_own rfl (.tmp 34) (.tmp 51) 35 rfl 95 i0 _ 5 40 Tryz.underlying35 hi hz0 hzz1 hzz2 rfl dC w2.heap.size (.slice la ln lc) _ rfl (Own.ext HO.out xT) ⟨wr.heap.size, 0, none⟩ 1 1 ([d.Id, d.Due, d.Key, d.Value, d.Fired].map (.int .i64)) rfl (by simp) (fun j u hu => by rw [add_lit0, Nat.zero_add, ((Blk.new wr _ _).drew).cell]; simpa using hu) (ints_oneCell _ _) oM 1000 (by simp [hlk]; omega) (by unfold maxLen; omega) oM (by simp; omega) ?_; intro v3 wa hown1 hga; have hxa : Ext w2 wa := Ext.own (v := .slice la ln lc) (he.trans xT) (Own.ext HO.out xT) (Nat.le_refl _) hga))
   all_goals
    have hown3 : OwnI w2.heap.size 95 5 wa v3 (flJob (ps.take k) ++ [d.Id, d.Due, d.Key, d.Value, d.Fired]) := by simpa [OwnI] using hown1
    go_wp2_with fail
    go_roundw
    case rel => exact ⟨k + 1, by omega, hxa, ⟨_, _, _, rfl, by have := HPN.out; omega, by first | exact HNX.out | (have h9 := HNX.out; simpa using h9)⟩, by rw [take_snoc HD.out, flJob_snoc]; exact hown3⟩
    case measure => simp [slLen]; omega
  obtain rfl : k = ps.length := by omega
  rw [List.take_length] at hown
  have hpn0 : pn = 0 := by omega
  clear hpn hI
  subst hpn0
  go_wp2_with fail
  go_ret2
  refine ⟨(hy1.trans hy2).ext he, .inl ⟨ps, la, ln, lc, HOK.out, rfl, OwnI.mono hown oM, ?_⟩⟩
  have h9 := K2.ext he
  rw [HM.out] at h9
  exact h9
theorem numbersState_c (w : World) (v : Value) (L : List Int) (hv : Ints 1 w v L) (hl : L.length ≤ 100000000000) :
  Calls Tryz.prog 120 #[v] w (Ret w fun r w' => (∃ s, parsed L s ∧ ∃ u, r = .tuple #[u, .bool true] ∧ IsState w.heap.size w' u s) ∨ ((∀ s, ¬ parsed L s) ∧ r = .tuple #[.agg #[.int .i64 0, .int .i64 0, .slice none 0 0, .slice none 0 0, .int .i64 0, .int .i64 0, .int .i64 0], .bool false])) := by
 obtain ⟨a, c, rfl, hcap, hm, hat⟩ := hv.one
 clear hat
 obtain ⟨W1, hW1⟩ : ∃ W1, W1 = w.alloc (.cells #[.int .i64 0, .int .i64 0, .slice none 0 0, .slice none 0 0, .int .i64 0, .int .i64 0, .int .i64 0] 39) := ⟨_, rfl⟩
 have hE1 : Ext w W1 := by rw [hW1]; exact (Ext.refl _).alloc _
 have hs1 : W1.heap.size = w.heap.size + 1 := by rw [hW1]; simp
 have R1 : Blk W1 w.heap.size 39 #[.int .i64 0, .int .i64 0, .slice none 0 0, .slice none 0 0, .int .i64 0, .int .i64 0, .int .i64 0] := by rw [hW1]; exact Blk.new _ _ _
 obtain ⟨W2, hW2⟩ : ∃ W2, W2 = W1.alloc (.cells #[.slice a L.length c, .int .i64 0] 159) := ⟨_, rfl⟩
 have hE2 : Ext W1 W2 := by rw [hW2]; exact (Ext.refl _).alloc _
 have K2 : Blk W2 (w.heap.size + 1) 159 #[.slice a L.length c, .int .i64 ((0 : Nat) : Int)] := by rw [hW2, ← hs1]; exact Blk.new _ _ _
 have hs2 : W2.heap.size = w.heap.size + 1 + 1 := by rw [hW2]; simp [hs1]
 have HW1 := Lib.hid hW1; have HW2 := Lib.hid hW2; have HS1 := Lib.hid hs1
 clear hW1 hW2
 have hEw : Ext w W2 := hE1.trans hE2
 go_enter Tryz.func120, Tryz.ntmps120
 go_wp2_with fail
 rw [← HW1.out, ← HW2.out]
 by_cases hq1 : 2 ≤ L.length
 rotate_left
 ·
  refine (take_none _ w (w.heap.size + 1) a c L 0 K2 hv hEw oM hl 2 oM oM oM).mono ?_
  rintro e w3 ⟨rfl, hy3⟩
  have U3 : Upd W2 w3 [(w.heap.size + 1)] := hy3
  have E3 : Ext W1 w3 := hE2.upd_below U3 (fun q hq => by simp at hq; omega)
  have KR3 := R1.ext E3
  have hz3 := U3.size
  have EL3 : Ext w w3 := hE1.trans E3
  obtain ⟨CR3, FR3, LR3⟩ := KR3.cfl
  go_wp2_with fail
  refine bodyPost_ret (by simp [results, Tryz.results120, go_sem, CR3, FR3, LR3]; try rfl) rfl ?_
  refine ⟨_, rfl, ?_, .inr ⟨fun s h => ?_, rfl⟩⟩
  ·
   (repeat (refine Ext.setCell ?_ (Nat.le_refl _) _)); exact hE1.trans E3
  obtain ⟨g1, g2, g3, g4, g5, g6⟩ := parsed_at h
  omega
 refine (take_some _ w (w.heap.size + 1) a c L 0 K2 hv hEw oM hl 2 oM oM).mono ?_
 rintro e w3 ⟨fa, fn, fc, rfl, o3, K3, hy3⟩
 have U3 : Upd W2 w3 [(w.heap.size + 1)] := hy3
 have E3 : Ext W1 w3 := hE2.upd_below U3 (fun q hq => by simp at hq; omega)
 have KR3 := R1.ext E3
 have hz3 := U3.size
 have EL3 : Ext w w3 := hE1.trans E3
 clear K2
 go_wp2_with fail
 refine (takePairs_c _ w (w.heap.size + 1) a c L 2 K3 hv EL3 oM hl hq1).mono ?_
 rintro e w4 ⟨hy4, hx4⟩
 have U4 : Upd W2 w4 [(w.heap.size + 1)] := U3.trans hy4
 have E4 : Ext W1 w4 := hE2.upd_below U4 (fun q hq => by simp at hq; omega)
 have KR4 := R1.ext E4
 have hz4 := U4.size
 have EL4 : Ext w w4 := hE1.trans E4
 have O4 := OwnI.upd' o3 hy4 (fun k hk hk' => by have := (o3.foot k hk).1; simp at hk'; omega)
 clear K3 o3
 rcases hx4 with ⟨ps, pa, pn, pc, hok, rfl, o4, K4⟩ | ⟨hno, pa, pn, pc, rfl⟩
 rotate_left
 ·
  have CR4 := KR4.cell; have FR4 := KR4.frozen; have LR4 := KR4.lt
  go_wp2_with fail
  refine bodyPost_ret (by simp [results, Tryz.results120, go_sem, CR4, FR4, LR4]; try rfl) rfl ?_
  refine ⟨_, rfl, ?_, .inr ⟨fun s h => ?_, rfl⟩⟩
  ·
   (repeat (refine Ext.setCell ?_ (Nat.le_refl _) _)); exact hE1.trans E4
  obtain ⟨g1, g2, g3, g4, g5, g6⟩ := parsed_at h
  exact hno _ g2
 have hpl := okP_len hok
 have HP := Lib.hid hok
 clear hok
 go_wp2_with fail
 refine (takeJobs_c _ w (w.heap.size + 1) a c L (2 + 1 + 2 * ps.length) K4 hv EL4 oM hl hpl).mono ?_
 rintro e w5 ⟨hy5, hx5⟩
 have U5 : Upd W2 w5 [(w.heap.size + 1)] := U4.trans hy5
 have E5 : Ext W1 w5 := hE2.upd_below U5 (fun q hq => by simp at hq; omega)
 have KR5 := R1.ext E5
 have hz5 := U5.size
 have EL5 : Ext w w5 := hE1.trans E5
 have O5 := OwnI.upd' O4 hy5 (fun k hk hk' => by have := (O4.foot k hk).1; simp at hk'; omega)
 have P5 := OwnI.upd' o4 hy5 (fun k hk hk' => by have := (o4.foot k hk).1; simp at hk'; omega)
 clear K4 O4 o4
 rcases hx5 with ⟨js, ja, jn, jc, hok, rfl, o5, K5⟩ | ⟨hno, ja, jn, jc, rfl⟩
 rotate_left
 ·
  have CR5 := KR5.cell; have FR5 := KR5.frozen; have LR5 := KR5.lt
  go_wp2_with fail
  refine bodyPost_ret (by simp [results, Tryz.results120, go_sem, CR5, FR5, LR5]; try rfl) rfl ?_
  refine ⟨_, rfl, ?_, .inr ⟨fun s h => ?_, rfl⟩⟩
  ·
   (repeat (refine Ext.setCell ?_ (Nat.le_refl _) _)); exact hE1.trans E5
  obtain ⟨g1, g2, g3, g4, g5, g6⟩ := parsed_at h
  obtain rfl := okP_uniq HP.out g2; exact hno _ (by rw [show 2 + 1 + 2 * s.Pairs.length = 3 + 2 * s.Pairs.length by omega]; exact g3)
 have hjl := okJ_len hok
 have HJ := Lib.hid hok
 obtain ⟨p, hp⟩ : ∃ p, p = 2 + 1 + 2 * ps.length + 1 + 5 * js.length := ⟨_, rfl⟩
 rw [← hp] at K5
 have HPP := Lib.hid hp
 clear hok
 go_wp2_with fail
 by_cases hq6 : p + 3 ≤ L.length
 rotate_left
 ·
  refine (take_none _ w (w.heap.size + 1) a c L p K5 hv EL5 oM hl 3 oM oM oM).mono ?_
  rintro e w6 ⟨rfl, hy6⟩
  have U6 : Upd W2 w6 [(w.heap.size + 1)] := U5.trans hy6
  have E6 : Ext W1 w6 := hE2.upd_below U6 (fun q hq => by simp at hq; omega)
  have KR6 := R1.ext E6
  have hz6 := U6.size
  have EL6 : Ext w w6 := hE1.trans E6
  clear hp
  obtain ⟨CR6, FR6, LR6⟩ := KR6.cfl
  go_wp2_with fail
  refine bodyPost_ret (by simp [results, Tryz.results120, go_sem, CR6, FR6, LR6]; try rfl) rfl ?_
  refine ⟨_, rfl, ?_, .inr ⟨fun s h => ?_, rfl⟩⟩
  ·
   (repeat (refine Ext.setCell ?_ (Nat.le_refl _) _)); exact hE1.trans E6
  obtain ⟨g1, g2, g3, g4, g5, g6⟩ := parsed_at h
  obtain rfl := okP_uniq HP.out g2; obtain rfl := okJ_uniq (by have := HJ.out; rw [show 2 + 1 + 2 * s.Pairs.length = 3 + 2 * s.Pairs.length by omega] at this; exact this) g3; have := HPP.out; omega
 refine (take_some _ w (w.heap.size + 1) a c L p K5 hv EL5 oM hl 3 hq6 oM).mono ?_
 rintro e w6 ⟨ha, hn, hc, rfl, o6, K6, hy6⟩
 have U6 : Upd W2 w6 [(w.heap.size + 1)] := U5.trans hy6
 have E6 : Ext W1 w6 := hE2.upd_below U6 (fun q hq => by simp at hq; omega)
 have KR6 := R1.ext E6
 have hz6 := U6.size
 have EL6 : Ext w w6 := hE1.trans E6
 have O6 := OwnI.upd' O5 hy6 (fun k hk hk' => by have := (O5.foot k hk).1; simp at hk'; omega)
 have P6 := OwnI.upd' P5 hy6 (fun k hk hk' => by have := (P5.foot k hk).1; simp at hk'; omega)
 have J6 := OwnI.upd' o5 hy6 (fun k hk hk' => by have := (o5.foot k hk).1; simp at hk'; omega)
 clear K5 O5 P5 o5
 have HPP := Lib.hid hp
 clear hp
 go_wp2_with fail
 refine (done_c _ w (w.heap.size + 1) a c L (p + 3) K6 hv EL6 oM hl oM).mono ?_
 rintro e w7 ⟨rfl, hx7⟩
 have hy7 : Upd w6 w7 [(w.heap.size + 1)] := hx7.upd _
 have U7 : Upd W2 w7 [(w.heap.size + 1)] := U6.trans hy7
 have E7 : Ext W1 w7 := hE2.upd_below U7 (fun q hq => by simp at hq; omega)
 have KR7 := R1.ext E7
 have hz7 := U7.size
 have EL7 : Ext w w7 := hE1.trans E7
 have O7 := OwnI.ext O6 hx7
 have P7 := OwnI.ext P6 hx7
 have J7 := OwnI.ext J6 hx7
 have L7 := OwnI.ext o6 hx7
 clear O6 P6 J6 o6 K6
 by_cases hq7 : p + 3 = L.length
 rotate_left
 ·
  rw [show decide (p + 3 = L.length) = false by simp [hq7]]
  have HQ7 := Lib.hid hq7
  clear hq7
  obtain ⟨CR7, FR7, LR7⟩ := KR7.cfl
  go_wp2_with fail
  refine bodyPost_ret (by simp [results, Tryz.results120, go_sem, CR7, FR7, LR7]; try rfl) rfl ?_
  refine ⟨_, rfl, ?_, .inr ⟨fun s h => ?_, rfl⟩⟩
  ·
   (repeat (refine Ext.setCell ?_ (Nat.le_refl _) _)); exact hE1.trans E7
  obtain ⟨g1, g2, g3, g4, g5, g6⟩ := parsed_at h
  obtain rfl := okP_uniq HP.out g2; obtain rfl := okJ_uniq (by have := HJ.out; rw [show 2 + 1 + 2 * s.Pairs.length = 3 + 2 * s.Pairs.length by omega] at this; exact this) g3; have := HPP.out; have := HQ7.out; omega
 rw [show decide (p + 3 = L.length) = true by simp [hq7]]
 obtain ⟨x0, hx0⟩ : ∃ x, L[0]? = some x := ⟨_, List.getElem?_eq_getElem oM⟩
 obtain ⟨x1, hx1⟩ : ∃ x, L[1]? = some x := ⟨_, List.getElem?_eq_getElem oM⟩
 have ht2 : (L.take (0 + 2)).drop 0 = [x0, x1] := by
  rw [List.drop_zero, Nat.zero_add, List.take_add_one, List.take_add_one, List.take_zero, hx0, hx1]; rfl
 rw [ht2] at O7
 have hdl : (L.drop p).length = 3 := by rw [List.length_drop]; omega
 obtain ⟨y0, y1, y2, hy⟩ : ∃ y0 y1 y2, L.drop p = [y0, y1, y2] := by
  match L.drop p, hdl with
  | [y0, y1, y2], _ => exact ⟨y0, y1, y2, rfl⟩
 have htl : (L.take (p + 3)).drop p = [y0, y1, y2] := by rw [hq7, List.take_length, hy]
 rw [htl] at L7
 have hnum : stateNums ⟨x0, x1, ps, js, ⟨y0, y1, y2⟩⟩ = L := parsed_of hx0 hx1 HP.out (by have := HJ.out; rw [show 2 + 1 + 2 * ps.length = 3 + 2 * ps.length by omega] at this; exact this) (by rw [← hy]; congr 1; have := HPP.out; omega)
 have HNUM := Lib.hid hnum
 clear hnum hy htl hdl ht2 hx0 hx1 hq7
 obtain ⟨_, _, e8, _, _, hat8⟩ := O7.ints.one
 injection e8 with e81 e82 e83; subst e81; subst e83
 obtain ⟨_, _, e9, _, _, hat9⟩ := L7.ints.one
 injection e9 with e91 e92 e93; subst e91; subst e93
 simp only [List.length_cons, List.length_nil, Nat.zero_add, Nat.reduceAdd] at e82 e92
 subst e82; subst e92
 obtain ⟨_, b1, q1, r0, rfl, _, c0⟩ := hat8 0 (by simp)
 obtain ⟨_, b1', q1', r1, r2, _, c1⟩ := hat8 1 (by simp)
 injection r2 with r2; injection r2 with r2 r3; subst r2; subst r3
 obtain ⟨_, b2, q2, s0, rfl, _, d0⟩ := hat9 0 (by simp)
 obtain ⟨_, b2', q2', s1, s2, _, d1⟩ := hat9 1 (by simp)
 injection s2 with s2; injection s2 with s2 s3; subst s2; subst s3
 obtain ⟨_, b2', q2', s4, s5, _, d2⟩ := hat9 2 (by simp)
 injection s5 with s5; injection s5 with s5 s6; subst s5; subst s6
 simp only [List.getElem?_cons_zero, List.getElem?_cons_succ, Option.some.injEq] at r0 r1 s0 s1 s4
 subst r0; subst r1; subst s0; subst s1; subst s4
 simp only [Nat.add_zero] at c0 d0
 clear hat8 hat9
 go_wp2_with fail
 go_region_held3 (fun w' => w'.cell? ⟨b1, q1, none⟩ = some (.int .i64 x0) ∧ w'.cell? ⟨b1, q1 + 1, none⟩ = some (.int .i64 x1) ∧ w'.cell? ⟨b2, q2, none⟩ = some (.int .i64 y0) ∧ w'.cell? ⟨b2, q2 + 1, none⟩ = some (.int .i64 y1) ∧ w'.cell? ⟨b2, q2 + 2, none⟩ = some (.int .i64 y2)) (first | (refine ⟨Ext.cell (w := w7) ?_ c0, Ext.cell (w := w7) ?_ c1, Ext.cell (w := w7) ?_ d0, Ext.cell (w := w7) ?_ d1, Ext.cell (w := w7) ?_ d2⟩ <;> (exact xT); done)) (fail)
 all_goals
  go_wp2_with fail
  refine (stateOk_c _ x0 x1 _ ps _ js y0 y1 y2 ((OwnI.ints P7).ext xT) ((OwnI.ints J7).ext xT)).mono ?_
  rintro e w8 ⟨rfl, hx8⟩
  have B8 : Blk w8 w7.heap.size 39 _ := Blk.ext (by exact blkT) hx8
  (try simp only [List.setIfInBounds_toArray, List.set_cons_zero, List.set_cons_succ] at B8)
  have X8 : Ext w7 w8 := Ext.trans xT hx8
  have E8 : Ext W1 w8 := E7.trans X8
  have KR8 := R1.ext E8
  obtain ⟨CR8, FR8, LR8⟩ := KR8.cfl
  have CB8 := B8.cell; have LB8 := B8.lt
  have hz8 := X8.size
  have hne : w.heap.size ≠ w7.heap.size := by omega
  cases hok : stateOk ⟨x0, x1, ps, js, ⟨y0, y1, y2⟩⟩
  ·
   go_wp2_with fail
   refine bodyPost_ret (by simp [results, Tryz.results120, go_sem, CR8, FR8, LR8]; try rfl) rfl ?_
   refine ⟨_, rfl, ?_, .inr ⟨fun s h => ?_, rfl⟩⟩
   ·
    (repeat (refine Ext.setCell ?_ (Nat.le_refl _) _)); exact hE1.trans E8
   obtain rfl := stateNums_inj (h.2.trans HNUM.out.symm)
   rw [h.1] at hok
   cases hok
  have HOK := Lib.hid hok
  clear hok
  go_wp2_with fail
  refine bodyPost_ret (by simp [results, Tryz.results120, go_sem, CR8, FR8, LR8]; try rfl) rfl ?_
  refine ⟨_, rfl, ?_, .inl ⟨_, ⟨HOK.out, HNUM.out⟩, _, rfl, _, _, rfl, OwnI.mono (OwnI.keep (OwnI.ext P7 X8) chgT) oM, OwnI.mono (OwnI.keep (OwnI.ext J7 X8) chgT) oM⟩⟩
  (repeat (refine Ext.setCell ?_ (Nat.le_refl _) _)); exact hE1.trans E8
end Go.Proofs.YtlnkggpemdpemaaGreat
namespace Go.G8
open Go.RowKit Go.Proofs.YtlnkggpemdpemaaGreat
theorem shot_uniq {l : List (List Int)} {r : List Int} {x : Int} {t : DState} (h0 : l[0]? = some r) (h1 : r[0]? = some x) (ht : parsed (l.flatMap mid) t) {s : DShot} (hs : shotOk s = true) (e : shotRows s = l) : s = ⟨x, t⟩ := by
 have h2 : parsed (l.flatMap mid) s.State := ⟨(shotOk_parts hs).2.2.1, by rw [← e, (shotRows_parse hs).2]⟩
 have h3 := parsed_uniq h2 ht
 obtain ⟨r', hr', h4, _⟩ := shotRows_first hs
 rw [e, h0] at hr'
 obtain rfl := Option.some.inj hr'
 rw [h1] at h4
 obtain ⟨a, b⟩ := s
 have h5 := Option.some.inj h4
 simp only [] at h3 h5
 rw [h3, h5]
theorem shotRows_ne {s : DShot} (h : 0 < (shotRows s).length) : shotOk s = true := by
 cases hs : shotOk s
 ·
  simp [shotRows, hs] at h
 rfl
end Go.G8
namespace Go.Proofs.YtlnkggpemdpemaaGreat
open Go.RowKit Go.G8
theorem rowsShot_k {w : World} {v : Value} {l : List (List Int)} (h : RdRows w v l) (hr : l.length ≤ 2000000) : Calls Tryz.prog 97 #[v] w (Ret w fun r w' => (∃ s, shotOk s = true ∧ shotRows s = l ∧ ∃ u, r = .tuple #[u, .bool true] ∧ IsShot w.heap.size w' u s) ∨ ((∀ s, shotOk s = true → shotRows s ≠ l) ∧ r = .tuple #[.agg #[.int .i64 0, .int .i64 0, .int .i64 0, .slice none 0 0, .slice none 0 0, .int .i64 0, .int .i64 0, .int .i64 0], .bool false])) := by
 obtain ⟨a, cap, rfl, hcap, hm, ha⟩ := Nest.rows h
 have HA := Lib.hid ha
 unfold maxLen at hm
 clear ha
 obtain ⟨W1, hW1⟩ : ∃ W1, W1 = w.alloc (.cells #[.int .i64 0, .int .i64 0, .int .i64 0, .slice none 0 0, .slice none 0 0, .int .i64 0, .int .i64 0, .int .i64 0] 78) := ⟨_, rfl⟩
 have E1 : Ext w W1 := by rw [hW1]; exact (Ext.refl _).alloc _
 have R1 : Blk W1 w.heap.size 78 #[.int .i64 0, .int .i64 0, .int .i64 0, .slice none 0 0, .slice none 0 0, .int .i64 0, .int .i64 0, .int .i64 0] := by rw [hW1]; exact Blk.new _ _ _
 have hs1 : W1.heap.size = w.heap.size + 1 := by rw [hW1]; simp
 have HW1 := Lib.hid hW1
 clear hW1
 have HRD := Lib.hid h
 clear h
 go_enter Tryz.func97, Tryz.ntmps97
 go_wp2_with fail
 rw [← HW1.out]
 refine (gathered_c _ _ l (HRD.out.ext E1) hr).mono ?_
 rintro e w2 ⟨_, rfl, hx2, na, nn, nc, rfl, o2⟩
 have KR2 := R1.ext hx2
 have E2 : Ext w w2 := E1.trans hx2
 have hz2 := hx2.size
 cases hall : l.all partOk
 ·
  have HAL := Lib.hid hall
  clear hall o2
  obtain ⟨CR2, FR2, LR2⟩ := KR2.cfl
  go_wp2_with fail
  refine bodyPost_ret (by simp [results, Tryz.results97, go_sem, CR2, FR2, LR2]; try rfl) rfl ?_
  refine ⟨_, rfl, ?_, .inr ⟨fun s hs e => ?_, rfl⟩⟩
  ·
   (repeat (refine Ext.setCell ?_ (Nat.le_refl _) _)); exact E2
  have h1 := (shotRows_parse hs).1; rw [e, HAL.out] at h1; exact Bool.noConfusion h1
 have o2 := o2 hall
 have HAL := Lib.hid hall
 have hnl := mids_len l hall
 clear hall
 by_cases hl0 : l.length = 0
 ·
  have hz : (((l.length : Nat) : Int) == 0) = true := by simp; exact List.eq_nil_of_length_eq_zero hl0
  have hz' : decide (((l.length : Nat) : Int) = 0) = true := by simp; exact List.eq_nil_of_length_eq_zero hl0
  have HL0 := Lib.hid hl0
  clear hl0 hnl
  obtain ⟨CR2, FR2, LR2⟩ := KR2.cfl
  go_wp2_with fail
  refine bodyPost_ret (by simp [results, Tryz.results97, go_sem, CR2, FR2, LR2]; try rfl) rfl ?_
  refine ⟨_, rfl, ?_, .inr ⟨fun s hs e => ?_, rfl⟩⟩
  ·
   (repeat (refine Ext.setCell ?_ (Nat.le_refl _) _)); exact E2
  have h1 := (shotRows_len hs).2.1; rw [e] at h1; have := HL0.out; omega
 have hlp : 0 < l.length := by omega
 have hz : (((l.length : Nat) : Int) == 0) = false := by simp; intro e; rw [e] at hl0; exact hl0 rfl
 have hz' : decide (((l.length : Nat) : Int) = 0) = false := by simp; intro e; rw [e] at hl0; exact hl0 rfl
 have hnl2 : (l.flatMap mid).length ≤ 100000000000 := by omega
 clear hl0 hnl
 obtain ⟨r0, b0, q0, sa, sn, sc, hr0, rfl, hb0, c0, hin⟩ := HA.out 0 hlp
 simp only [Nat.add_zero] at c0
 have hr7 : 7 ≤ r0.length := by
  have h1 := (List.all_eq_true.1 HAL.out) r0 (List.mem_of_getElem? hr0)
  simp only [partOk, Bool.and_eq_true, decide_eq_true_eq] at h1
  exact h1.2
 obtain ⟨_, _, e9, hc9, hm9, hat⟩ := hin.one
 injection e9 with e1 e2 e3; subst e1; subst e3
 obtain ⟨x, sb, so, hx0, rfl, _, cx⟩ := hat 0 oM
 simp only [Nat.add_zero] at cx
 have hsn : 0 < sn := by omega
 have HR0 := Lib.hid hr0; have HX0 := Lib.hid hx0
 clear e2 hat hr0 hx0 hr7 hin hc9
 go_wp2_with fail
 refine (numbersState_c _ _ _ (OwnI.ints o2) hnl2).mono ?_
 rintro e w3 ⟨_, rfl, hx3, hN⟩
 have KR3 := KR2.ext hx3
 have E3 : Ext w w3 := E2.trans hx3
 have hz3 := hx3.size
 rcases hN with ⟨t, ht, u, rfl, t2, t3, rfl, p2, p3⟩ | ⟨hno, rfl⟩
 rotate_left
 ·
  have HNO := Lib.hid hno
  clear hno
  obtain ⟨CR3, FR3, LR3⟩ := KR3.cfl
  go_wp2_with fail
  refine bodyPost_ret (by simp [results, Tryz.results97, go_sem, CR3, FR3, LR3]; try rfl) rfl ?_
  refine ⟨_, rfl, ?_, .inr ⟨fun s hs e => ?_, rfl⟩⟩
  ·
   exact xT
  exact HNO.out s.State ⟨(shotOk_parts hs).2.2.1, by rw [← e, (shotRows_parse hs).2]⟩
 obtain ⟨a2, n2, k2, rfl⟩ := p2.shape
 obtain ⟨a3, n3, k3, rfl⟩ := p3.shape
 have HT := Lib.hid ht
 clear ht
 go_wp2_with fail
 obtain ⟨W5, hW5⟩ : ∃ W5, W5 = w3.alloc (.cells #[.int .i64 t.Index, .int .i64 t.Time, .slice a2 n2 k2, .slice a3 n3 k3, .int .i64 t.Lease.Holder, .int .i64 t.Lease.Epoch, .int .i64 t.Lease.Until] 39) := ⟨_, rfl⟩
 rw [← hW5]
 have X5 : Ext w3 W5 := by rw [hW5]; exact (Ext.refl _).alloc _
 have B5 : Blk W5 w3.heap.size 39 #[.int .i64 t.Index, .int .i64 t.Time, .slice a2 n2 k2, .slice a3 n3 k3, .int .i64 t.Lease.Holder, .int .i64 t.Lease.Epoch, .int .i64 t.Lease.Until] := by rw [hW5]; exact Blk.new _ _ _
 have hs5 : W5.heap.size = w3.heap.size + 1 := by rw [hW5]; simp
 clear hW5
 have E5 : Ext w W5 := E3.trans X5
 have KR5 := KR3.ext X5
 have d0 := E5.cell c0; have dx := E5.cell cx
 have m0 : W5.cell? ⟨w3.heap.size, 0, none⟩ = some (.int .i64 t.Index) := B5.cell 0
 have m1 : W5.cell? ⟨w3.heap.size, 1, none⟩ = some (.int .i64 t.Time) := B5.cell 1
 have m2 : W5.cell? ⟨w3.heap.size, 2, none⟩ = some (.slice a2 n2 k2) := B5.cell 2
 have m3 : W5.cell? ⟨w3.heap.size, 3, none⟩ = some (.slice a3 n3 k3) := B5.cell 3
 have m4 : W5.cell? ⟨w3.heap.size, 4, none⟩ = some (.int .i64 t.Lease.Holder) := B5.cell 4
 have m5 : W5.cell? ⟨w3.heap.size, 5, none⟩ = some (.int .i64 t.Lease.Epoch) := B5.cell 5
 have m6 : W5.cell? ⟨w3.heap.size, 6, none⟩ = some (.int .i64 t.Lease.Until) := B5.cell 6
 have LB5 := B5.lt
 have HS5 := Lib.hid hs5
 clear hs5
 go_region_held3 (fun w' => w'.cell? ⟨b0, q0, none⟩ = some (.slice (some ⟨sb, so, none⟩) sn sc) ∧ w'.cell? ⟨sb, so, none⟩ = some (.int .i64 x) ∧ w'.cell? ⟨w3.heap.size, 0, none⟩ = some (.int .i64 t.Index) ∧ w'.cell? ⟨w3.heap.size, 1, none⟩ = some (.int .i64 t.Time) ∧ w'.cell? ⟨w3.heap.size, 2, none⟩ = some (.slice a2 n2 k2) ∧ w'.cell? ⟨w3.heap.size, 3, none⟩ = some (.slice a3 n3 k3) ∧ w'.cell? ⟨w3.heap.size, 4, none⟩ = some (.int .i64 t.Lease.Holder) ∧ w'.cell? ⟨w3.heap.size, 5, none⟩ = some (.int .i64 t.Lease.Epoch) ∧ w'.cell? ⟨w3.heap.size, 6, none⟩ = some (.int .i64 t.Lease.Until)) (first | (refine ⟨Ext.cell (w := W5) ?_ d0, Ext.cell (w := W5) ?_ dx, Ext.cell (w := W5) ?_ m0, Ext.cell (w := W5) ?_ m1, Ext.cell (w := W5) ?_ m2, Ext.cell (w := W5) ?_ m3, Ext.cell (w := W5) ?_ m4, Ext.cell (w := W5) ?_ m5, Ext.cell (w := W5) ?_ m6⟩ <;> (exact xT); done)) (fail)
 all_goals
  go_wp2_with fail
  have hrs : ∀ W, Ext w3 W → RdShot W (.agg #[.int .i64 x, .int .i64 t.Index, .int .i64 t.Time, .slice a2 n2 k2, .slice a3 n3 k3, .int .i64 t.Lease.Holder, .int .i64 t.Lease.Epoch, .int .i64 t.Lease.Until]) ⟨x, t⟩ := fun W hW => ⟨_, _, rfl, (OwnI.ints p2).ext hW, (OwnI.ints p3).ext hW⟩
  refine (shotRows_k (hrs _ xT)).mono ?_
  rintro e w6 ⟨_, rfl, hx6, FF, g6⟩
  have B6 : Blk w6 W5.heap.size 78 _ := Blk.ext (by exact blkT) hx6
  (try simp only [List.setIfInBounds_toArray, List.set_cons_zero, List.set_cons_succ] at B6)
  have X6 : Ext W5 w6 := Ext.trans xT hx6
  have E6 : Ext w w6 := E5.trans X6
  have KR6 := KR5.ext X6
  have hz6 := X6.size
  have hz5 := X5.size
  have hne : w.heap.size ≠ W5.heap.size := by omega
  clear d0 dx m0 m1 m2 m3 m4 m5 m6 hrs
  have P2 : OwnI W1.heap.size 113 2 w6 (.slice a2 n2 k2) (flPair t.Pairs) := OwnI.mono (OwnI.ext p2 (X5.trans X6)) oM
  have P3 : OwnI W1.heap.size 95 5 w6 (.slice a3 n3 k3) (flJob t.Jobs) := OwnI.mono (OwnI.ext p3 (X5.trans X6)) oM
  obtain ⟨S, hS⟩ : ∃ S : DShot, S = ⟨x, t⟩ := ⟨_, rfl⟩
  rw [← hS] at g6
  have HS := Lib.hid hS
  clear hS
  obtain ⟨ga, gc, rfl, hgc, hgm, hga⟩ := Nest.rows g6.rd
  unfold maxLen at hgm
  have HG := Lib.hid hga
  clear hga
  by_cases hlen : (shotRows S).length = l.length
  rotate_left
  ·
   have hlb : (((shotRows S).length : Int) != ((l.length : Nat) : Int)) = true := by simp; omega
   have hlb2 : (((shotRows S).length : Int) == ((l.length : Nat) : Int)) = false := by simp; omega
   have HLEN := Lib.hid hlen
   obtain ⟨CR6, FR6, LR6⟩ := KR6.cfl
   go_wp2_with fail
   refine bodyPost_ret (by simp [results, Tryz.results97, go_sem, CR6, FR6, LR6]; try rfl) rfl ?_
   refine ⟨_, rfl, ?_, .inr ⟨fun s hs e => ?_, rfl⟩⟩
   ·
    (repeat (refine Ext.setCell ?_ (Nat.le_refl _) _)); exact E6
   have h9 := shot_uniq HR0.out HX0.out HT.out hs e; rw [← HS.out] at h9; subst h9; exact HLEN.out (by rw [e])
  have HLEN := Lib.hid hlen
  rw [hlen] at HG hgc ⊢
  clear hlen
  have CB6 := B6.cell; have LB6 := B6.lt
  obtain ⟨CR6, FR6, LR6⟩ := KR6.cfl
  go_wp2_with fail
  go_loopw [50] (fun i wr => ∃ k : Nat, k ≤ l.length ∧ i = .int .i64 k ∧ Ext w6 wr ∧ Hid ((shotRows S).take k = l.take k)) (fun i _ => l.length - (intOf i).toNat)
  case atStart => exact ⟨0, Nat.zero_le _, rfl, Ext.refl _, Lib.hid (by simp)⟩
  case round =>
   obtain ⟨k, hk, rfl, he, heq⟩ := hrel
   have KR7 := KR6.ext he
   have B7 := B6.ext he
   have CB7 := B7.cell; have LB7 := B7.lt
   obtain ⟨CR7, FR7, LR7⟩ := KR7.cfl
   by_cases hlt : k < l.length
   ·
    obtain ⟨ra, b1, o1, xa, xn, xc, hra, rfl, _, ca, ia⟩ := HG.out k hlt
    obtain ⟨rb, b2, o2', ya, yn, yc, hrb, r9, _, cb, ib⟩ := HA.out k hlt
    injection r9 with r9; injection r9 with r91 r92; subst r91; subst r92
    have da := he.cell ca
    have db := (E6.trans he).cell cb
    have HRA := Lib.hid hra; have HRB := Lib.hid hrb
    have ia' := Lib.hid (ia.ext he); have ib' := Lib.hid (ib.ext (E6.trans he))
    clear hra hrb ca cb ia ib CB6 CR6 FR6
    go_wp2_with fail
    refine (sameRow_c _ _ _ ra rb ia'.out ib'.out).mono ?_
    rintro e w7 ⟨rfl, hx7⟩
    by_cases hab : ra = rb
    ·
     rw [show decide (ra = rb) = true by simp [hab]]
     have HAB := Lib.hid hab
     clear hab
     go_wp2_with fail
     go_roundw
     case rel => exact ⟨k + 1, by omega, by go_num, he.trans hx7, Lib.hid (by rw [take_snoc HRA.out, take_snoc HRB.out, heq.out, HAB.out])⟩
     case measure => simp [intOf]; omega
    rw [show decide (ra = rb) = false by simp [hab]]
    have HAB := Lib.hid hab
    clear hab CB7 CR7 FR7
    have KR8 := KR7.ext hx7
    obtain ⟨CR8, FR8, LR8⟩ := KR8.cfl
    go_wp2_with fail
    refine bodyPost_ret (by simp [results, Tryz.results97, go_sem, CR8, FR8, LR8]; try rfl) rfl ?_
    refine ⟨_, rfl, ?_, .inr ⟨fun s hs e => ?_, rfl⟩⟩
    ·
     (repeat (refine Ext.setCell ?_ (Nat.le_refl _) _)); exact (E6.trans he).trans hx7
    have h9 := shot_uniq HR0.out HX0.out HT.out hs e; rw [← HS.out] at h9; subst h9; have h8 := HRA.out; rw [e, HRB.out] at h8; exact HAB.out (Option.some.inj h8).symm
   obtain rfl : k = l.length := by omega
   have hfin : shotRows S = l := by
    have h9 := heq.out
    rw [List.take_length, List.take_of_length_le (by rw [HLEN.out]; exact Nat.le_refl _)] at h9
    exact h9
   have HF := Lib.hid hfin
   clear hfin CB6 CR6 FR6
   go_wp2_with fail
   refine bodyPost_ret (by simp [results, Tryz.results97, go_sem, CR7, FR7, LR7, CB7, LB7]; try rfl) rfl ?_
   refine ⟨_, rfl, ?_, .inl ⟨S, shotRows_ne (by rw [HF.out]; exact hlp), HF.out, _, rfl, ?_⟩⟩
   ·
    (repeat (refine Ext.setCell ?_ (Nat.le_refl _) _)); exact E6.trans he
   rw [HS.out]
   exact ⟨_, _, rfl, OwnI.mono (OwnI.keep (OwnI.ext P2 he) chgT) oM, OwnI.mono (OwnI.keep (OwnI.ext P3 he) chgT) oM⟩
theorem sRowPairs_c (w : World) (v : Value) (l : List DPair) (h : Ints 1 w v ((l.length : Int) :: flPair l)) (hl : l.length ≤ 10) :
  Calls Tryz.prog 159 #[v] w (Ret w fun r w' => ∃ a n c, r = .tuple #[.slice a n c, .bool (pairsOk l)] ∧ (pairsOk l = true → OwnI w.heap.size 113 2 w' (.slice a n c) (flPair l))) := by
 obtain ⟨_, _, _, rfl, hlen, hcap, hm, hnil, hat⟩ := h
 rename_i a N cap
 have hN : N = 1 + 2 * l.length := by simp [length_flPair] at hlen; omega
 obtain ⟨b1, o1, rfl⟩ : ∃ b1 o1, a = some ⟨b1, o1, none⟩ := by
  cases hpa : a with
  | none => have := hnil hpa; omega
  | some q => obtain ⟨b, o, sp⟩ := q; obtain ⟨rfl, _⟩ := hat b o sp hpa oM; exact ⟨b, o, rfl⟩
 obtain ⟨_, hbl, hcc⟩ := hat b1 o1 none rfl oM
 have x00 : w.cell? ⟨b1, o1, none⟩ = some (.int .i64 (l.length : Int)) := by have := hcc 0 (.int .i64 (l.length : Int)) rfl; simpa using this
 have hN0 : 0 < N := by omega
 have hNl : N ≤ 100 := by omega
 have hr1 : (N : Int) % 2 = 1 := by omega
 have hr2 : ((N : Nat) : Int).tmod 2 = 1 := by rw [Int.tmod_eq_emod_of_nonneg oM]; omega
 have hr3 : decide ((N : Int) > 21) = false := by simp; omega
 have hr4 : ((N : Int)) ≤ 21 := by omega
 unfold maxLen at hm
 have HC := Lib.hid hcc; have HN := Lib.hid hN
 obtain ⟨i0, hi, hz0, hz1, hz2⟩ := info_parts info_Pair
 clear hcc hat hnil hlen hN
 go_enter Tryz.func159, Tryz.ntmps159
 go_wp2_with fail
 go_loopw [4, 5] (fun out i wr => ∃ k : Nat, k ≤ l.length ∧ i = .int .i64 ((1 + 2 * k : Nat) : Int) ∧ Ext w wr ∧ OwnI w.heap.size 113 2 wr out (flPair (l.take k))) (fun _ i _ => 1000 - (intOf i).toNat)
 case atStart => exact ⟨0, Nat.zero_le _, by go_num, (Ext.refl _).alloc _, show OwnI w.heap.size 113 2 _ _ [] from Own.fresh w 113 2⟩
 case round =>
  obtain ⟨k, hk, rfl, he, hown⟩ := hrel
  obtain ⟨la, ln, lc, rfl⟩ := hown.shape
  have hsz := he.size
  by_cases hlt : k < l.length
  ·
   obtain ⟨d, hd⟩ : ∃ d, l[k]? = some d := ⟨_, List.getElem?_eq_getElem hlt⟩
   have HD := Lib.hid hd; have HO := Lib.hid hown
   obtain ⟨i, hi'⟩ : ∃ i : Nat, i = 1 + 2 * k := ⟨_, rfl⟩
   rw [← hi']
   have hnk := HN.out
   have hil : i ≤ 100 := by omega
   have hq0 : (i : Int) < (N : Int) := by omega
   have hr0 : i < N := by omega
   have hq1 : (i : Int) + 1 < (N : Int) := by omega
   have hr1 : i + 1 < N := by omega
   have hwi1 : IntKind.i64.wrap ((i : Int) + 1) = (i : Int) + 1 := by rw [IntKind.wrap_i64]; omega
   have hnn1 : (0 : Int) ≤ (i : Int) + 1 := by omega
   have htn1 : ((i : Int) + 1).toNat = i + 1 := by omega
   have hcc := HC.out
   have x0 : w.cell? ⟨b1, o1 + i, none⟩ = some (.int .i64 d.Key) := by
    have h8 : (((l.length : Int) :: flPair l).map (Value.int .i64))[i]? = some (.int .i64 d.Key) := by
     rw [List.getElem?_map, show i = (k * 2) + 1 by omega, List.getElem?_cons_succ]
     have := flat_get DPair.ints (n := 2) (fun _ => rfl) l k 0 d HD.out dC
     rw [show (flPair l)[k * 2]? = (DPair.ints d)[0]? from this]
     rfl
    exact hcc (i) _ h8
   have x1 : w.cell? ⟨b1, o1 + (i + 1), none⟩ = some (.int .i64 d.Value) := by
    have h8 : (((l.length : Int) :: flPair l).map (Value.int .i64))[i + 1]? = some (.int .i64 d.Value) := by
     rw [List.getElem?_map, show i + 1 = (k * 2 + 1) + 1 by omega, List.getElem?_cons_succ]
     have := flat_get DPair.ints (n := 2) (fun _ => rfl) l k 1 d HD.out dC
     rw [show (flPair l)[k * 2 + 1]? = (DPair.ints d)[1]? from this]
     rfl
    exact hcc (i + 1) _ h8
   have HI := Lib.hid hi'
   have hlk : (flPair (l.take k)).length = k * 2 := by rw [length_flPair, List.length_take]; congr 1; omega
   have d0 := he.cell x0
   have d1 := he.cell x1
   clear hd hown hcc hi' hnk
   go_wp2_with fail
   go_region_held3 (fun w' => w'.cell? ⟨b1, o1 + i, none⟩ = some (.int .i64 d.Key) ∧ w'.cell? ⟨b1, o1 + (i + 1), none⟩ = some (.int .i64 d.Value)) (first | (refine ⟨Ext.cell (w := w) ?_ x0, Ext.cell (w := w) ?_ x1⟩ <;> (exact xT); done)) (first | (refine step_append_own rfl (.tmp 23) (.tmp 34) 34 rfl 113 i0 _ 2 16 Tryz.underlying34 hi hz0 hz1 hz2 rfl dC w.heap.size (.slice la ln lc) _ rfl (Own.ext HO.out xT) ⟨wr.heap.size, 0, none⟩ 1 1 ([d.Key, d.Value].map (.int .i64)) rfl (by simp) (fun j u hu => by rw [add_lit0, Nat.zero_add, ((Blk.new wr _ _).drew).cell]; simpa using hu) (ints_oneCell _ _) oM 1000 (by simp [hlk]; omega) (by unfold maxLen; omega) oM (by simp; omega) ?_; intro v3 wa hown1 hga; have hxa : Ext w wa := Ext.own (v := .slice la ln lc) (he.trans xT) (Own.ext HO.out xT) (Nat.le_refl _) hga))
   all_goals
    have hown3 : OwnI w.heap.size 113 2 wa v3 (flPair (l.take k) ++ [d.Key, d.Value]) := by simpa [OwnI] using hown1
    go_wp2_with fail
    go_roundw
    case rel => exact ⟨k + 1, by omega, by rw [HI.out]; go_num, hxa, by rw [take_snoc HD.out, flPair_snoc]; exact hown3⟩
    case measure => simp [intOf]; omega
  obtain rfl : k = l.length := by omega
  rw [List.take_length] at hown
  obtain ⟨_, _, e9, _⟩ := hown.ints.recs (f := DPair.ints) (fun _ => rfl) dC
  injection e9 with e1 e2 e3
  subst e1; subst e2; subst e3
  have hNI : ¬ ((1 + 2 * l.length : Nat) : Int) < (N : Int) := by have := HN.out; omega
  have hNI' : ¬ (1 + 2 * l.length : Nat) < N := by have := HN.out; omega
  obtain ⟨i, hi'⟩ : ∃ i : Nat, i = 1 + 2 * l.length := ⟨_, rfl⟩
  rw [← hi'] at hNI hNI' ⊢
  have d00 := he.cell x00
  have HO := Lib.hid hown
  clear hi' hown
  cases hok : pairsOk l
  all_goals
   have HK := Lib.hid hok
   clear hok
   go_wp2_with (first | (go_at_call 57; refine (sPairsOk_c _ _ _ (OwnI.ints HO.out)).mono ?_; rintro e w3 ⟨rfl, hx3⟩; rw [HK.out]))
   go_ret2
  ·
   refine ⟨_, rfl, ?_, _, _, _, by rw [HK.out]; rfl, fun h => by rw [HK.out] at h; cases h⟩
   exact xT
  refine ⟨_, rfl, ?_, _, _, _, by rw [HK.out]; rfl, fun _ => OwnI.ext HO.out hx3⟩
  exact he.trans hx3
theorem sRowOrders_c (w : World) (v : Value) (l : List DJob) (h : Ints 1 w v ((l.length : Int) :: flJob l)) (hl : l.length ≤ 8) :
  Calls Tryz.prog 160 #[v] w (Ret w fun r w' => ∃ a n c, r = .tuple #[.slice a n c, .bool (jobsOk l)] ∧ (jobsOk l = true → OwnI w.heap.size 95 5 w' (.slice a n c) (flJob l))) := by
 obtain ⟨_, _, _, rfl, hlen, hcap, hm, hnil, hat⟩ := h
 rename_i a N cap
 have hN : N = 1 + 5 * l.length := by simp [length_flJob] at hlen; omega
 obtain ⟨b1, o1, rfl⟩ : ∃ b1 o1, a = some ⟨b1, o1, none⟩ := by
  cases hpa : a with
  | none => have := hnil hpa; omega
  | some q => obtain ⟨b, o, sp⟩ := q; obtain ⟨rfl, _⟩ := hat b o sp hpa oM; exact ⟨b, o, rfl⟩
 obtain ⟨_, hbl, hcc⟩ := hat b1 o1 none rfl oM
 have x00 : w.cell? ⟨b1, o1, none⟩ = some (.int .i64 (l.length : Int)) := by have := hcc 0 (.int .i64 (l.length : Int)) rfl; simpa using this
 have hN0 : 0 < N := by omega
 have hNl : N ≤ 100 := by omega
 have hr1 : (N : Int) % 5 = 1 := by omega
 have hr2 : ((N : Nat) : Int).tmod 5 = 1 := by rw [Int.tmod_eq_emod_of_nonneg oM]; omega
 have hr3 : decide ((N : Int) > 41) = false := by simp; omega
 have hr4 : ((N : Int)) ≤ 41 := by omega
 unfold maxLen at hm
 have HC := Lib.hid hcc; have HN := Lib.hid hN
 obtain ⟨i0, hi, hz0, hz1, hz2⟩ := info_parts info_Job
 clear hcc hat hnil hlen hN
 go_enter Tryz.func160, Tryz.ntmps160
 go_wp2_with fail
 go_loopw [4, 5] (fun out i wr => ∃ k : Nat, k ≤ l.length ∧ i = .int .i64 ((1 + 5 * k : Nat) : Int) ∧ Ext w wr ∧ OwnI w.heap.size 95 5 wr out (flJob (l.take k))) (fun _ i _ => 1000 - (intOf i).toNat)
 case atStart => exact ⟨0, Nat.zero_le _, by go_num, (Ext.refl _).alloc _, show OwnI w.heap.size 95 5 _ _ [] from Own.fresh w 95 5⟩
 case round =>
  obtain ⟨k, hk, rfl, he, hown⟩ := hrel
  obtain ⟨la, ln, lc, rfl⟩ := hown.shape
  have hsz := he.size
  by_cases hlt : k < l.length
  ·
   obtain ⟨d, hd⟩ : ∃ d, l[k]? = some d := ⟨_, List.getElem?_eq_getElem hlt⟩
   have HD := Lib.hid hd; have HO := Lib.hid hown
   obtain ⟨i, hi'⟩ : ∃ i : Nat, i = 1 + 5 * k := ⟨_, rfl⟩
   rw [← hi']
   have hnk := HN.out
   have hil : i ≤ 100 := by omega
   have hq0 : (i : Int) < (N : Int) := by omega
   have hr0 : i < N := by omega
   have hq1 : (i : Int) + 1 < (N : Int) := by omega
   have hr1 : i + 1 < N := by omega
   have hwi1 : IntKind.i64.wrap ((i : Int) + 1) = (i : Int) + 1 := by rw [IntKind.wrap_i64]; omega
   have hnn1 : (0 : Int) ≤ (i : Int) + 1 := by omega
   have htn1 : ((i : Int) + 1).toNat = i + 1 := by omega
   have hq2 : (i : Int) + 2 < (N : Int) := by omega
   have hr2 : i + 2 < N := by omega
   have hwi2 : IntKind.i64.wrap ((i : Int) + 2) = (i : Int) + 2 := by rw [IntKind.wrap_i64]; omega
   have hnn2 : (0 : Int) ≤ (i : Int) + 2 := by omega
   have htn2 : ((i : Int) + 2).toNat = i + 2 := by omega
   have hq3 : (i : Int) + 3 < (N : Int) := by omega
   have hr3 : i + 3 < N := by omega
   have hwi3 : IntKind.i64.wrap ((i : Int) + 3) = (i : Int) + 3 := by rw [IntKind.wrap_i64]; omega
   have hnn3 : (0 : Int) ≤ (i : Int) + 3 := by omega
   have htn3 : ((i : Int) + 3).toNat = i + 3 := by omega
   have hq4 : (i : Int) + 4 < (N : Int) := by omega
   have hr4 : i + 4 < N := by omega
   have hwi4 : IntKind.i64.wrap ((i : Int) + 4) = (i : Int) + 4 := by rw [IntKind.wrap_i64]; omega
   have hnn4 : (0 : Int) ≤ (i : Int) + 4 := by omega
   have htn4 : ((i : Int) + 4).toNat = i + 4 := by omega
   have hcc := HC.out
   have x0 : w.cell? ⟨b1, o1 + i, none⟩ = some (.int .i64 d.Id) := by
    have h8 : (((l.length : Int) :: flJob l).map (Value.int .i64))[i]? = some (.int .i64 d.Id) := by
     rw [List.getElem?_map, show i = (k * 5) + 1 by omega, List.getElem?_cons_succ]
     have := flat_get DJob.ints (n := 5) (fun _ => rfl) l k 0 d HD.out dC
     rw [show (flJob l)[k * 5]? = (DJob.ints d)[0]? from this]
     rfl
    exact hcc (i) _ h8
   have x1 : w.cell? ⟨b1, o1 + (i + 1), none⟩ = some (.int .i64 d.Due) := by
    have h8 : (((l.length : Int) :: flJob l).map (Value.int .i64))[i + 1]? = some (.int .i64 d.Due) := by
     rw [List.getElem?_map, show i + 1 = (k * 5 + 1) + 1 by omega, List.getElem?_cons_succ]
     have := flat_get DJob.ints (n := 5) (fun _ => rfl) l k 1 d HD.out dC
     rw [show (flJob l)[k * 5 + 1]? = (DJob.ints d)[1]? from this]
     rfl
    exact hcc (i + 1) _ h8
   have x2 : w.cell? ⟨b1, o1 + (i + 2), none⟩ = some (.int .i64 d.Key) := by
    have h8 : (((l.length : Int) :: flJob l).map (Value.int .i64))[i + 2]? = some (.int .i64 d.Key) := by
     rw [List.getElem?_map, show i + 2 = (k * 5 + 2) + 1 by omega, List.getElem?_cons_succ]
     have := flat_get DJob.ints (n := 5) (fun _ => rfl) l k 2 d HD.out dC
     rw [show (flJob l)[k * 5 + 2]? = (DJob.ints d)[2]? from this]
     rfl
    exact hcc (i + 2) _ h8
   have x3 : w.cell? ⟨b1, o1 + (i + 3), none⟩ = some (.int .i64 d.Value) := by
    have h8 : (((l.length : Int) :: flJob l).map (Value.int .i64))[i + 3]? = some (.int .i64 d.Value) := by
     rw [List.getElem?_map, show i + 3 = (k * 5 + 3) + 1 by omega, List.getElem?_cons_succ]
     have := flat_get DJob.ints (n := 5) (fun _ => rfl) l k 3 d HD.out dC
     rw [show (flJob l)[k * 5 + 3]? = (DJob.ints d)[3]? from this]
     rfl
    exact hcc (i + 3) _ h8
   have x4 : w.cell? ⟨b1, o1 + (i + 4), none⟩ = some (.int .i64 d.Fired) := by
    have h8 : (((l.length : Int) :: flJob l).map (Value.int .i64))[i + 4]? = some (.int .i64 d.Fired) := by
     rw [List.getElem?_map, show i + 4 = (k * 5 + 4) + 1 by omega, List.getElem?_cons_succ]
     have := flat_get DJob.ints (n := 5) (fun _ => rfl) l k 4 d HD.out dC
     rw [show (flJob l)[k * 5 + 4]? = (DJob.ints d)[4]? from this]
     rfl
    exact hcc (i + 4) _ h8
   have HI := Lib.hid hi'
   have hlk : (flJob (l.take k)).length = k * 5 := by rw [length_flJob, List.length_take]; congr 1; omega
   have d0 := he.cell x0
   have d1 := he.cell x1
   have d2 := he.cell x2
   have d3 := he.cell x3
   have d4 := he.cell x4
   clear hd hown hcc hi' hnk
   go_wp2_with fail
   go_region_held3 (fun w' => w'.cell? ⟨b1, o1 + i, none⟩ = some (.int .i64 d.Id) ∧ w'.cell? ⟨b1, o1 + (i + 1), none⟩ = some (.int .i64 d.Due) ∧ w'.cell? ⟨b1, o1 + (i + 2), none⟩ = some (.int .i64 d.Key) ∧ w'.cell? ⟨b1, o1 + (i + 3), none⟩ = some (.int .i64 d.Value) ∧ w'.cell? ⟨b1, o1 + (i + 4), none⟩ = some (.int .i64 d.Fired)) (first | (refine ⟨Ext.cell (w := w) ?_ x0, Ext.cell (w := w) ?_ x1, Ext.cell (w := w) ?_ x2, Ext.cell (w := w) ?_ x3, Ext.cell (w := w) ?_ x4⟩ <;> (exact xT); done)) (first | (refine step_append_own rfl (.tmp 23) (.tmp 49) 35 rfl 95 i0 _ 5 40 Tryz.underlying35 hi hz0 hz1 hz2 rfl dC w.heap.size (.slice la ln lc) _ rfl (Own.ext HO.out xT) ⟨wr.heap.size, 0, none⟩ 1 1 ([d.Id, d.Due, d.Key, d.Value, d.Fired].map (.int .i64)) rfl (by simp) (fun j u hu => by rw [add_lit0, Nat.zero_add, ((Blk.new wr _ _).drew).cell]; simpa using hu) (ints_oneCell _ _) oM 1000 (by simp [hlk]; omega) (by unfold maxLen; omega) oM (by simp; omega) ?_; intro v3 wa hown1 hga; have hxa : Ext w wa := Ext.own (v := .slice la ln lc) (he.trans xT) (Own.ext HO.out xT) (Nat.le_refl _) hga))
   all_goals
    have hown3 : OwnI w.heap.size 95 5 wa v3 (flJob (l.take k) ++ [d.Id, d.Due, d.Key, d.Value, d.Fired]) := by simpa [OwnI] using hown1
    go_wp2_with fail
    go_roundw
    case rel => exact ⟨k + 1, by omega, by rw [HI.out]; go_num, hxa, by rw [take_snoc HD.out, flJob_snoc]; exact hown3⟩
    case measure => simp [intOf]; omega
  obtain rfl : k = l.length := by omega
  rw [List.take_length] at hown
  obtain ⟨_, _, e9, _⟩ := hown.ints.recs (f := DJob.ints) (fun _ => rfl) dC
  injection e9 with e1 e2 e3
  subst e1; subst e2; subst e3
  have hNI : ¬ ((1 + 5 * l.length : Nat) : Int) < (N : Int) := by have := HN.out; omega
  have hNI' : ¬ (1 + 5 * l.length : Nat) < N := by have := HN.out; omega
  obtain ⟨i, hi'⟩ : ∃ i : Nat, i = 1 + 5 * l.length := ⟨_, rfl⟩
  rw [← hi'] at hNI hNI' ⊢
  have d00 := he.cell x00
  have HO := Lib.hid hown
  clear hi' hown
  cases hok : jobsOk l
  all_goals
   have HK := Lib.hid hok
   clear hok
   go_wp2_with (first | (go_at_call 58; refine (sJobsOk_c _ _ _ (OwnI.ints HO.out)).mono ?_; rintro e w3 ⟨rfl, hx3⟩; rw [HK.out]))
   go_ret2
  ·
   refine ⟨_, rfl, ?_, _, _, _, by rw [HK.out]; rfl, fun h => by rw [HK.out] at h; cases h⟩
   exact xT
  refine ⟨_, rfl, ?_, _, _, _, by rw [HK.out]; rfl, fun _ => OwnI.ext HO.out hx3⟩
  exact he.trans hx3
end Go.Proofs.YtlnkggpemdpemaaGreat
namespace Go.G8
open Go.RowKit Go.Proofs.YtlnkggpemdpemaaGreat
def leaseIf (l : DLease) : DLease := if leaseOk l then l else ⟨0, 0, 0⟩
end Go.G8
namespace Go.Proofs.YtlnkggpemdpemaaGreat
open Go.RowKit Go.G8
theorem sRowLease_c (w : World) (v : Value) (x y z : Int) (h : Ints 1 w v [x, y, z]) :
  Calls Tryz.prog 161 #[v] w (RetV w (.tuple #[.agg #[.int .i64 (leaseIf ⟨x, y, z⟩).Holder, .int .i64 (leaseIf ⟨x, y, z⟩).Epoch, .int .i64 (leaseIf ⟨x, y, z⟩).Until], .bool (leaseOk ⟨x, y, z⟩)])) := by
 obtain ⟨a, c, rfl, hcap, hm, hat⟩ := h.one
 obtain ⟨_, b1, q1, r0, rfl, _, c0⟩ := hat 0 (by simp)
 obtain ⟨_, b1', q1', r1, r2, _, c1⟩ := hat 1 (by simp)
 injection r2 with r2; injection r2 with r2 r3; subst r2; subst r3
 obtain ⟨_, b1', q1', r4, r5, _, c2⟩ := hat 2 (by simp)
 injection r5 with r5; injection r5 with r5 r6; subst r5; subst r6
 simp only [List.getElem?_cons_zero, List.getElem?_cons_succ, Option.some.injEq] at r0 r1 r4
 subst r0; subst r1; subst r4
 simp only [Nat.add_zero] at c0
 simp only [List.length_cons, List.length_nil, Nat.zero_add, Nat.reduceAdd] at hcap ⊢
 clear hat h
 have hx0 : Ext w (w.alloc (.cells #[.int .i64 0, .int .i64 0, .int .i64 0] 37)) := (Ext.refl _).alloc _
 have R0 : Blk (w.alloc (.cells #[.int .i64 0, .int .i64 0, .int .i64 0] 37)) w.heap.size 37 #[.int .i64 0, .int .i64 0, .int .i64 0] := Blk.new _ _ _
 go_enter Tryz.func161, Tryz.ntmps161
 go_wp2_with fail
 go_region_held3 (fun w' => w'.cell? ⟨b1, q1, none⟩ = some (.int .i64 x) ∧ w'.cell? ⟨b1, q1 + 1, none⟩ = some (.int .i64 y) ∧ w'.cell? ⟨b1, q1 + 2, none⟩ = some (.int .i64 z)) (first | (refine ⟨Ext.cell (w := w) ?_ c0, Ext.cell (w := w) ?_ c1, Ext.cell (w := w) ?_ c2⟩ <;> (exact xT); done)) (fail)
 all_goals
  go_wp2_with fail
  refine (sLeaseOk_c _ x y z).mono ?_
  rintro e w8 ⟨rfl, hx8⟩
  have B8 : Blk w8 (w.heap.size + 1) 37 _ := Blk.ext (by exact blkT) hx8
  (try simp only [List.setIfInBounds_toArray, List.set_cons_zero, List.set_cons_succ] at B8)
  have X8 : Ext (w.alloc (.cells #[.int .i64 0, .int .i64 0, .int .i64 0] 37)) w8 := Ext.trans xT hx8
  have KR8 := R0.ext X8
  obtain ⟨CR8, FR8, LR8⟩ := KR8.cfl
  have CB8 := B8.cell; have LB8 := B8.lt
  cases hok : leaseOk ⟨x, y, z⟩
  ·
   have e9 : leaseIf ⟨x, y, z⟩ = ⟨0, 0, 0⟩ := by simp [leaseIf, hok]
   have HE := Lib.hid e9; have HK := Lib.hid hok
   clear e9 hok
   go_wp2_with fail
   refine bodyPost_ret (by simp [results, Tryz.results161, go_sem, CR8, FR8, LR8, LB8]; try rfl) rfl ?_
   refine ⟨by rw [HE.out, HK.out], ?_⟩
   (repeat (refine Ext.setCell ?_ (Nat.le_refl _) _)); exact hx0.trans X8
  have e9 : leaseIf ⟨x, y, z⟩ = ⟨x, y, z⟩ := by simp [leaseIf, hok]
  have HE := Lib.hid e9; have HK := Lib.hid hok
  clear e9 hok
  go_wp2_with fail
  refine bodyPost_ret (by simp [results, Tryz.results161, go_sem, CR8, FR8, LR8, LB8]; try rfl) rfl ?_
  refine ⟨by rw [HE.out, HK.out], ?_⟩
  (repeat (refine Ext.setCell ?_ (Nat.le_refl _) _)); exact hx0.trans X8
theorem sNumbersState_c (w : World) (v : Value) (L : List Int) (hv : Ints 1 w v L) (hl : L.length ≤ 100000) :
  Calls Tryz.prog 123 #[v] w (Ret w fun r w' => (∃ s, parsed L s ∧ ∃ u, r = .tuple #[u, .bool true] ∧ IsState w.heap.size w' u s) ∨ ((∀ s, ¬ parsed L s) ∧ r = .tuple #[.agg #[.int .i64 0, .int .i64 0, .slice none 0 0, .slice none 0 0, .int .i64 0, .int .i64 0, .int .i64 0], .bool false])) := by
 obtain ⟨a, c, rfl, hcap, hm, hat⟩ := hv.one
 unfold maxLen at hm
 have E1 : Ext w (w.alloc (.cells #[.int .i64 0, .int .i64 0, .slice none 0 0, .slice none 0 0, .int .i64 0, .int .i64 0, .int .i64 0] 39)) := (Ext.refl _).alloc _
 have KR1 : Blk (w.alloc (.cells #[.int .i64 0, .int .i64 0, .slice none 0 0, .slice none 0 0, .int .i64 0, .int .i64 0, .int .i64 0] 39)) w.heap.size 39 #[.int .i64 0, .int .i64 0, .slice none 0 0, .slice none 0 0, .int .i64 0, .int .i64 0, .int .i64 0] := Blk.new _ _ _
 obtain ⟨N, hN⟩ : ∃ N, N = L.length := ⟨_, rfl⟩
 rw [← hN] at hcap hl hat ⊢
 have HV := Lib.hid hv
 rw [← hN] at hv
 have HN := Lib.hid hN
 clear hN
 by_cases hA1 : (N : Int) < 7
 ·
  have HA := Lib.hid hA1
  clear hat
  go_enter Tryz.func123, Tryz.ntmps123
  obtain ⟨CR1, FR1, LR1⟩ := KR1.cfl
  go_wp2_with fail
  refine bodyPost_ret (by simp [results, Tryz.results123, go_sem, CR1, FR1, LR1]; try rfl) rfl ?_
  refine ⟨_, rfl, ?_, .inr ⟨fun s h => ?_, rfl⟩⟩
  ·
   (repeat (refine Ext.setCell ?_ (Nat.le_refl _) _)); exact E1
  obtain ⟨g1, g2, g3, g4, g5, g6⟩ := parsed_at h
  have g7 := stateNums_bound h.1
  rw [h.2] at g7
  have := HN.out; have := HA.out; omega
 by_cases hA2 : (67 : Int) < (N : Int)
 ·
  have HA := Lib.hid hA2
  have hA3 : decide ((N : Int) < 7) = false := by simp; omega
  clear hat
  go_enter Tryz.func123, Tryz.ntmps123
  obtain ⟨CR1, FR1, LR1⟩ := KR1.cfl
  go_wp2_with fail
  refine bodyPost_ret (by simp [results, Tryz.results123, go_sem, CR1, FR1, LR1]; try rfl) rfl ?_
  refine ⟨_, rfl, ?_, .inr ⟨fun s h => ?_, rfl⟩⟩
  ·
   (repeat (refine Ext.setCell ?_ (Nat.le_refl _) _)); exact E1
  obtain ⟨g1, g2, g3, g4, g5, g6⟩ := parsed_at h
  have g7 := stateNums_bound h.1
  rw [h.2] at g7
  have := HN.out; have := HA.out; omega
 have hN7 : 7 ≤ N := by omega
 obtain ⟨x2, b1, q1, hx2, rfl, hb1, c2⟩ := hat 2 oM
 obtain ⟨x0, b1', q1', hx0, r2, _, c0⟩ := hat 0 oM
 injection r2 with r2; injection r2 with r2 r3; subst r2; subst r3
 obtain ⟨x1, b1', q1', hx1, r2, _, c1⟩ := hat 1 oM
 injection r2 with r2; injection r2 with r2 r3; subst r2; subst r3
 simp only [Nat.add_zero] at c0
 have HAT := Lib.hid hat
 have H0 := Lib.hid hx0; have H1 := Lib.hid hx1; have H2 := Lib.hid hx2
 clear hat hx0 hx1 hx2
 have k2 : (w.alloc (.cells #[.int .i64 0, .int .i64 0, .slice none 0 0, .slice none 0 0, .int .i64 0, .int .i64 0, .int .i64 0] 39)).cell? ⟨b1, q1 + 2, none⟩ = some (.int .i64 x2) := E1.cell c2
 go_enter Tryz.func123, Tryz.ntmps123
 go_wp2_with fail
 refine (l1In_c _ x2 0 10).mono ?_
 rintro e w' ⟨rfl, rfl⟩
 cases hi2 : inb x2 0 10
 ·
  have HI := Lib.hid hi2
  clear hi2
  obtain ⟨CR1, FR1, LR1⟩ := KR1.cfl
  go_wp2_with fail
  refine bodyPost_ret (by simp [results, Tryz.results123, go_sem, CR1, FR1, LR1]; try rfl) rfl ?_
  refine ⟨_, rfl, ?_, .inr ⟨fun s h => ?_, rfl⟩⟩
  ·
   (repeat (refine Ext.setCell ?_ (Nat.le_refl _) _)); exact E1
  obtain ⟨g1, g2, g3, g4, g5, g6⟩ := parsed_at h
  have g7 := stateNums_bound h.1
  rw [h.2] at g7
  have h8 := g2.1; rw [H2.out] at h8; have h8 := Option.some.inj h8; have h9 := g2.2.1; have h7 := HI.out; rw [h8, inb_of oM oM] at h7; exact Bool.noConfusion h7
 obtain ⟨h20, h21⟩ := inb_true.1 hi2
 obtain ⟨P, rfl⟩ := Int.eq_ofNat_of_zero_le h20
 obtain ⟨m, hm'⟩ : ∃ m : Nat, m = 3 + 2 * P := ⟨_, rfl⟩
 have hmI : 3 + 2 * (P : Int) = (m : Int) := by omega
 have hml : m ≤ 100 := by omega
 have hP10 : P ≤ 10 := by omega
 have HM := Lib.hid hm'
 clear hi2 h20 hm'
 by_cases hmn : (m : Int) < (N : Int)
 rotate_left
 ·
  have HMN := Lib.hid hmn
  clear hmn
  have hmn' : (N : Int) ≤ (m : Int) := by have := HMN.out; omega
  obtain ⟨CR1, FR1, LR1⟩ := KR1.cfl
  go_wp2_with fail
  refine bodyPost_ret (by simp [results, Tryz.results123, go_sem, CR1, FR1, LR1]; try rfl) rfl ?_
  refine ⟨_, rfl, ?_, .inr ⟨fun s h => ?_, rfl⟩⟩
  ·
   (repeat (refine Ext.setCell ?_ (Nat.le_refl _) _)); exact E1
  obtain ⟨g1, g2, g3, g4, g5, g6⟩ := parsed_at h
  have g7 := stateNums_bound h.1
  rw [h.2] at g7
  have h8 := g2.1; rw [H2.out] at h8; have h8 := Option.some.inj h8; have := HM.out; have := HMN.out; have := HN.out; have := okJ_len g3; omega
 have hmn2 : m < N := by omega
 obtain ⟨y, b1', q1', hy, r2, _, cm⟩ := HAT.out m hmn2
 injection r2 with r2; injection r2 with r2 r3; subst r2; subst r3
 have km : (w.alloc (.cells #[.int .i64 0, .int .i64 0, .slice none 0 0, .slice none 0 0, .int .i64 0, .int .i64 0, .int .i64 0] 39)).cell? ⟨b1, q1 + m, none⟩ = some (.int .i64 y) := E1.cell cm
 have HY := Lib.hid hy
 clear hy
 go_wp2_with fail
 refine (l1In_c _ y 0 8).mono ?_
 rintro e w' ⟨rfl, rfl⟩
 cases hiy : inb y 0 8
 ·
  have HI := Lib.hid hiy
  clear hiy
  obtain ⟨CR1, FR1, LR1⟩ := KR1.cfl
  go_wp2_with fail
  refine bodyPost_ret (by simp [results, Tryz.results123, go_sem, CR1, FR1, LR1]; try rfl) rfl ?_
  refine ⟨_, rfl, ?_, .inr ⟨fun s h => ?_, rfl⟩⟩
  ·
   (repeat (refine Ext.setCell ?_ (Nat.le_refl _) _)); exact E1
  obtain ⟨g1, g2, g3, g4, g5, g6⟩ := parsed_at h
  have g7 := stateNums_bound h.1
  rw [h.2] at g7
  have h8 := g2.1; rw [H2.out] at h8; have h8 := Option.some.inj h8; have h10 := g3.1; rw [show 3 + 2 * s.Pairs.length = m by have := HM.out; omega, HY.out] at h10; have h10 := Option.some.inj h10; have h9 := g3.2.1; have h7 := HI.out; rw [h10, inb_of oM oM] at h7; exact Bool.noConfusion h7
 obtain ⟨hy0, hy1⟩ := inb_true.1 hiy
 obtain ⟨J, rfl⟩ := Int.eq_ofNat_of_zero_le hy0
 obtain ⟨z, hz⟩ : ∃ z : Nat, z = m + 1 + 5 * J + 3 := ⟨_, rfl⟩
 obtain ⟨j5, hj5⟩ : ∃ j5 : Nat, j5 = 5 * J := ⟨_, rfl⟩
 have hj5I : 5 * (J : Int) = (j5 : Int) := by omega
 have hj5l : j5 ≤ 40 := by omega
 have hzI : (m : Int) + 1 + (j5 : Int) + 3 = (z : Int) := by omega
 have hzl : z ≤ 1000 := by omega
 have hJ8 : J ≤ 8 := by omega
 have HZ := Lib.hid hz; have HJ5 := Lib.hid hj5
 clear hiy hy0 hz hj5
 by_cases hzn : z = N
 rotate_left
 ·
  have HZN := Lib.hid hzn
  have hzb : ((z : Int) == (N : Int)) = false := by simp; omega
  have hzb3 : ((z : Int) != (N : Int)) = true := by simp; omega
  obtain ⟨CR1, FR1, LR1⟩ := KR1.cfl
  go_wp2_with fail
  refine bodyPost_ret (by simp [results, Tryz.results123, go_sem, CR1, FR1, LR1]; try rfl) rfl ?_
  refine ⟨_, rfl, ?_, .inr ⟨fun s h => ?_, rfl⟩⟩
  ·
   (repeat (refine Ext.setCell ?_ (Nat.le_refl _) _)); exact E1
  obtain ⟨g1, g2, g3, g4, g5, g6⟩ := parsed_at h
  have g7 := stateNums_bound h.1
  rw [h.2] at g7
  have h8 := g2.1; rw [H2.out] at h8; have h8 := Option.some.inj h8; have h10 := g3.1; rw [show 3 + 2 * s.Pairs.length = m by have := HM.out; omega, HY.out] at h10; have h10 := Option.some.inj h10; have := HZ.out; have := HZN.out; have := HN.out; have := HM.out; omega
 obtain ⟨ps, hok, hpl⟩ := okP_of (L := L) (p := 2) (n := P) H2.out hP10 (by have := HM.out; have := HN.out; omega)
 obtain ⟨js, hokj, hjl⟩ := okJ_of (L := L) (p := m) (n := J) HY.out hJ8 (by have := HZ.out; have := HN.out; omega)
 obtain ⟨q3, hq3⟩ : ∃ q3 : Nat, q3 = N - 3 := ⟨_, rfl⟩
 have hq3I : (N : Int) - 3 = (q3 : Int) := by omega
 have hmq : m ≤ q3 := by have := HZ.out; omega
 have hq3N : q3 ≤ N := by omega
 have hR1 : (L.take m).drop 2 = (ps.length : Int) :: flPair ps := by
  rw [List.drop_take, drop_at H2.out, hpl, show m - 2 = (2 * P) + 1 by have := HM.out; omega, List.take_succ_cons, ← hok.2.2, hpl]
 have hR2 : (L.take q3).drop m = (js.length : Int) :: flJob js := by
  rw [List.drop_take, drop_at HY.out, hjl, show q3 - m = (5 * J) + 1 by have := HZ.out; omega, List.take_succ_cons, ← hokj.2.2, hjl]
 have hdl : (L.drop q3).length = 3 := by rw [List.length_drop]; have := HN.out; omega
 obtain ⟨y0, y1, y2, hy⟩ : ∃ y0 y1 y2, L.drop q3 = [y0, y1, y2] := by
  match L.drop q3, hdl with
  | [y0, y1, y2], _ => exact ⟨y0, y1, y2, rfl⟩
 have hR3 : (L.take N).drop q3 = [y0, y1, y2] := by rw [HN.out, List.take_length, hy]
 have hnum : stateNums ⟨x0, x1, ps, js, ⟨y0, y1, y2⟩⟩ = L := parsed_of H0.out H1.out hok (by rw [show 3 + 2 * ps.length = m by have := HM.out; omega]; exact hokj) (by rw [← hy]; congr 1; have := HZ.out; have := HM.out; omega)
 have hv2 := HV.out
 rw [← HN.out] at hv2
 have HS1 := hv2.sliced (l := 2) (m := m) (by have := HM.out; omega) oM
 have HS2 := hv2.sliced (l := m) (m := q3) hmq hq3N
 have HS3 := hv2.sliced (l := q3) (m := N) hq3N (Nat.le_refl _)
 have hc2 : c ≠ 2 := by omega
 have hcm : c ≠ m := by omega
 have hcq : c ≠ q3 := by omega
 simp only [Go.sliced, if_neg hc2, if_neg hcm, if_neg hcq, Nat.mul_one, Option.map_some, add_lit0] at HS1 HS2 HS3
 rw [hR1] at HS1; rw [hR2] at HS2; rw [hR3] at HS3
 have hps : ps.length ≤ 10 := by omega
 have hjs : js.length ≤ 8 := by omega
 have hqm2 : (m : Int) ≤ (q3 : Int) := by omega
 have hqc : (q3 : Int) ≤ (c : Int) := by omega
 have hqN : (q3 : Int) ≤ (N : Int) := by omega
 have HS1 := Lib.hid HS1; have HS2 := Lib.hid HS2; have HS3 := Lib.hid HS3
 have HNUM := Lib.hid hnum
 clear hok hokj hpl hjl hq3 hR1 hR2 hR3 hy hdl hnum hv2 hv
 go_wp2_with fail
 refine (sRowPairs_c _ _ ps (HS1.out.ext E1) hps).mono ?_
 rintro e w2 ⟨_, rfl, hx2, pa, pn, pc, rfl, o2⟩
 have E2 := E1.trans hx2
 have KR2 := KR1.ext hx2
 go_wp2_with fail
 refine (sRowOrders_c _ _ js (HS2.out.ext E2) hjs).mono ?_
 rintro e w3 ⟨_, rfl, hx3, ja, jn, jc, rfl, o3⟩
 have E3 := E2.trans hx3
 have KR3 := KR2.ext hx3
 go_wp2_with fail
 refine (sRowLease_c _ _ y0 y1 y2 (HS3.out.ext E3)).mono ?_
 rintro e w4 ⟨rfl, hx4⟩
 have E4 := E3.trans hx4
 have KR4 := KR3.ext hx4
 obtain ⟨le, hle⟩ : ∃ le, le = leaseIf ⟨y0, y1, y2⟩ := ⟨_, rfl⟩
 rw [← hle]
 have HLE := Lib.hid hle
 clear hle k2 km
 go_wp2_with fail
 obtain ⟨W5, hW5⟩ : ∃ W5, W5 = w4.alloc (.cells #[.int .i64 le.Holder, .int .i64 le.Epoch, .int .i64 le.Until] 37) := ⟨_, rfl⟩
 have X5 : Ext w4 W5 := by rw [hW5]; exact (Ext.refl _).alloc _
 have B5 : Blk W5 w4.heap.size 37 #[.int .i64 le.Holder, .int .i64 le.Epoch, .int .i64 le.Until] := by rw [hW5]; exact Blk.new _ _ _
 have hs5 : W5.heap.size = w4.heap.size + 1 := by rw [hW5]; simp
 rw [← hW5]
 clear hW5
 have E5 := E4.trans X5
 have KR5 := KR4.ext X5
 have Y25 : Ext w2 W5 := (hx3.trans hx4).trans X5
 have Y35 : Ext w3 W5 := hx4.trans X5
 have d0 := E5.cell c0; have d1 := E5.cell c1
 have l0 : W5.cell? ⟨w4.heap.size, 0, none⟩ = some (.int .i64 le.Holder) := B5.cell 0
 have l1 : W5.cell? ⟨w4.heap.size, 1, none⟩ = some (.int .i64 le.Epoch) := B5.cell 1
 have l2 : W5.cell? ⟨w4.heap.size, 2, none⟩ = some (.int .i64 le.Until) := B5.cell 2
 have LB5 := B5.lt
 have LR5 := KR5.lt
 have h0N : (0 : Int) < (N : Int) := by omega
 have h1N : (1 : Int) < (N : Int) := by omega
 have h0N' : 0 < N := by omega
 have h1N' : 1 < N := by omega
 have HS5 := Lib.hid hs5
 clear hs5 HS1 HS2 HS3
 go_region_held3 (fun w' => w'.cell? ⟨b1, q1, none⟩ = some (.int .i64 x0) ∧ w'.cell? ⟨b1, q1 + 1, none⟩ = some (.int .i64 x1) ∧ w'.cell? ⟨w4.heap.size, 0, none⟩ = some (.int .i64 le.Holder) ∧ w'.cell? ⟨w4.heap.size, 1, none⟩ = some (.int .i64 le.Epoch) ∧ w'.cell? ⟨w4.heap.size, 2, none⟩ = some (.int .i64 le.Until)) (first | (refine ⟨Ext.cell (w := W5) ?_ d0, Ext.cell (w := W5) ?_ d1, Ext.cell (w := W5) ?_ l0, Ext.cell (w := W5) ?_ l1, Ext.cell (w := W5) ?_ l2⟩ <;> (exact xT); done)) (fail)
 all_goals
  have CR5 := KR5.cell; have FR5 := KR5.frozen
  cases hp : pairsOk ps
  ·
   have HP := Lib.hid hp
   clear hp
   go_wp2_with fail
   refine bodyPost_ret (by simp [results, Tryz.results123, go_sem, CR5, FR5, LR5]; try rfl) rfl ?_
   refine ⟨_, rfl, ?_, .inr ⟨fun s h => ?_, rfl⟩⟩
   ·
    exact xT
   obtain rfl := stateNums_inj (h.2.trans HNUM.out.symm)
   have := h.1
   simp [stateOk, HP.out] at this
  have o2' := o2 hp
  have HP := Lib.hid hp
  clear hp o2
  cases hj : jobsOk js
  ·
   have HJ := Lib.hid hj
   clear hj
   go_wp2_with fail
   refine bodyPost_ret (by simp [results, Tryz.results123, go_sem, CR5, FR5, LR5]; try rfl) rfl ?_
   refine ⟨_, rfl, ?_, .inr ⟨fun s h => ?_, rfl⟩⟩
   ·
    exact xT
   obtain rfl := stateNums_inj (h.2.trans HNUM.out.symm)
   have := h.1
   simp [stateOk, HJ.out] at this
  have o3' := o3 hj
  have HJ := Lib.hid hj
  clear hj o3
  cases hk : leaseOk ⟨y0, y1, y2⟩
  ·
   have HK := Lib.hid hk
   clear hk
   go_wp2_with fail
   refine bodyPost_ret (by simp [results, Tryz.results123, go_sem, CR5, FR5, LR5]; try rfl) rfl ?_
   refine ⟨_, rfl, ?_, .inr ⟨fun s h => ?_, rfl⟩⟩
   ·
    exact xT
   obtain rfl := stateNums_inj (h.2.trans HNUM.out.symm)
   have := h.1
   simp [stateOk, HK.out] at this
  obtain rfl : le = ⟨y0, y1, y2⟩ := by rw [HLE.out]; simp [leaseIf, hk]
  have HK := Lib.hid hk
  clear hk HLE
  go_wp2_with fail
  refine (sStateOk_c _ x0 x1 _ ps _ js y0 y1 y2 ((OwnI.ints o2').ext xT) ((OwnI.ints o3').ext xT)).mono ?_
  rintro e w8 ⟨rfl, hx8⟩
  have B8 : Blk w8 W5.heap.size 39 _ := Blk.ext (by exact blkT) hx8
  (try simp only [List.setIfInBounds_toArray, List.set_cons_zero, List.set_cons_succ] at B8)
  have X8 : Ext W5 w8 := Ext.trans xT hx8
  have E8 : Ext w w8 := E5.trans X8
  have KR8 := KR5.ext X8
  obtain ⟨CR8, FR8, LR8⟩ := KR8.cfl
  have CB8 := B8.cell; have LB8 := B8.lt
  have hne : w.heap.size ≠ W5.heap.size := by omega
  clear CR5 FR5 d0 d1 l0 l1 l2
  have hz1 : w.heap.size + 1 ≤ w2.heap.size := by have := hx2.size; simpa using this
  have hz2 := hx3.size
  cases hok : stateOk ⟨x0, x1, ps, js, ⟨y0, y1, y2⟩⟩
  ·
   have HOK := Lib.hid hok
   clear hok
   go_wp2_with fail
   refine bodyPost_ret (by simp [results, Tryz.results123, go_sem, CR8, FR8, LR8]; try rfl) rfl ?_
   refine ⟨_, rfl, ?_, .inr ⟨fun s h => ?_, rfl⟩⟩
   ·
    (repeat (refine Ext.setCell ?_ (Nat.le_refl _) _)); exact E8
   obtain rfl := stateNums_inj (h.2.trans HNUM.out.symm)
   have h9 := HOK.out
   rw [h.1] at h9
   exact Bool.noConfusion h9
  have HOK := Lib.hid hok
  clear hok
  go_wp2_with fail
  refine bodyPost_ret (by simp [results, Tryz.results123, go_sem, CR8, FR8, LR8, CB8, LB8]; try rfl) rfl ?_
  refine ⟨_, rfl, ?_, .inl ⟨_, ⟨HOK.out, HNUM.out⟩, _, rfl, _, _, rfl, OwnI.mono (B := w.heap.size + 1) (OwnI.keep (OwnI.mono (OwnI.ext o2' (Y25.trans X8)) (by simp)) chgT) oM, OwnI.mono (B := w.heap.size + 1) (OwnI.keep (OwnI.mono (OwnI.ext o3' (Y35.trans X8)) oM) chgT) oM⟩⟩
  (repeat (refine Ext.setCell ?_ (Nat.le_refl _) _)); exact E8
end Go.Proofs.YtlnkggpemdpemaaGreat
namespace Go.G8
open Go.RowKit Go.Proofs.YtlnkggpemdpemaaGreat
theorem shot_ends {s : DShot} (h : shotOk s = true) : (shotRows s).all endsOk = true := by
 rw [List.all_eq_true]
 intro r hr
 obtain ⟨i, hi⟩ := List.mem_iff_getElem?.1 hr
 have h1 := shotRows_ends h hi
 have h2 := (List.all_eq_true.1 (shotRows_parse h).1) r hr
 simp only [partOk, Bool.and_eq_true] at h2
 simp only [endsOk, Bool.and_eq_true, decide_eq_true_eq]
 exact ⟨h2.1, h1⟩
theorem ends_part {r : List Int} (h : endsOk r = true) : partOk r = true := by
 simp only [endsOk, Bool.and_eq_true, decide_eq_true_eq] at h
 simp only [partOk, Bool.and_eq_true, decide_eq_true_eq]
 exact ⟨h.1, by omega⟩
theorem ends_parts {l : List (List Int)} (h : l.all endsOk = true) : l.all partOk = true := by
 rw [List.all_eq_true] at h ⊢
 exact fun r hr => ends_part (h r hr)
end Go.G8
namespace Go.Proofs.YtlnkggpemdpemaaGreat
open Go.RowKit Go.G8
theorem sRowsShot_k {w : World} {v : Value} {l : List (List Int)} (h : RdRows w v l) (hr : l.length ≤ 2000000) : Calls Tryz.prog 104 #[v] w (Ret w fun r w' => (∃ s, shotOk s = true ∧ shotRows s = l ∧ ∃ u, r = .tuple #[u, .bool true] ∧ IsShot w.heap.size w' u s) ∨ ((∀ s, shotOk s = true → shotRows s ≠ l) ∧ r = .tuple #[.agg #[.int .i64 0, .int .i64 0, .int .i64 0, .slice none 0 0, .slice none 0 0, .int .i64 0, .int .i64 0, .int .i64 0], .bool false])) := by
 obtain ⟨a, cap, rfl, hcap, hm, ha⟩ := Nest.rows h
 have HA := Lib.hid ha
 unfold maxLen at hm
 clear ha h
 obtain ⟨i0, hi, hz0, hz1, hz2⟩ := info_parts info_Int64
 obtain ⟨W1, hW1⟩ : ∃ W1, W1 = w.alloc (.cells #[.int .i64 0, .int .i64 0, .int .i64 0, .slice none 0 0, .slice none 0 0, .int .i64 0, .int .i64 0, .int .i64 0] 78) := ⟨_, rfl⟩
 have E1 : Ext w W1 := by rw [hW1]; exact (Ext.refl _).alloc _
 have R1 : Blk W1 w.heap.size 78 #[.int .i64 0, .int .i64 0, .int .i64 0, .slice none 0 0, .slice none 0 0, .int .i64 0, .int .i64 0, .int .i64 0] := by rw [hW1]; exact Blk.new _ _ _
 have E0 : Ext w (w.alloc (.cells #[.int .i64 0, .int .i64 0, .int .i64 0, .slice none 0 0, .slice none 0 0, .int .i64 0, .int .i64 0, .int .i64 0] 78)) := (Ext.refl _).alloc _
 have KR0 : Blk (w.alloc (.cells #[.int .i64 0, .int .i64 0, .int .i64 0, .slice none 0 0, .slice none 0 0, .int .i64 0, .int .i64 0, .int .i64 0] 78)) w.heap.size 78 #[.int .i64 0, .int .i64 0, .int .i64 0, .slice none 0 0, .slice none 0 0, .int .i64 0, .int .i64 0, .int .i64 0] := Blk.new _ _ _
 have hs1 : W1.heap.size = w.heap.size + 1 := by rw [hW1]; simp
 have HW1 := Lib.hid hW1
 clear hW1
 by_cases hl0 : (l.length : Int) < 1
 ·
  have HL0 := Lib.hid hl0
  go_enter Tryz.func104, Tryz.ntmps104
  obtain ⟨CR0, FR0, LR0⟩ := KR0.cfl
  go_wp2_with fail
  refine bodyPost_ret (by simp [results, Tryz.results104, go_sem, CR0, FR0, LR0]; try rfl) rfl ?_
  refine ⟨_, rfl, ?_, .inr ⟨fun s hs e => ?_, rfl⟩⟩
  ·
   (repeat (refine Ext.setCell ?_ (Nat.le_refl _) _)); exact E0
  have h1 := (shotRows_len hs).2.1; rw [e] at h1; have := HL0.out; omega
 by_cases hl4 : (4 : Int) < (l.length : Int)
 ·
  have HL4 := Lib.hid hl4
  go_enter Tryz.func104, Tryz.ntmps104
  obtain ⟨CR0, FR0, LR0⟩ := KR0.cfl
  go_wp2_with fail
  refine bodyPost_ret (by simp [results, Tryz.results104, go_sem, CR0, FR0, LR0]; try rfl) rfl ?_
  refine ⟨_, rfl, ?_, .inr ⟨fun s hs e => ?_, rfl⟩⟩
  ·
   (repeat (refine Ext.setCell ?_ (Nat.le_refl _) _)); exact E0
  have h1 := (shotRows_len hs).2.2; rw [e] at h1; have := HL4.out; omega
 have hlp : 0 < l.length := by omega
 have hl4n : l.length ≤ 4 := by omega
 clear KR0 E0
 go_enter Tryz.func104, Tryz.ntmps104
 go_wp2_with fail
 rw [← HW1.out]
 go_loopw [4, 5] (fun all i wr => ∃ k : Nat, k ≤ l.length ∧ i = .int .i64 k ∧ Ext W1 wr ∧ OwnI W1.heap.size 2 1 wr all ((l.take k).flatMap mid) ∧ Hid ((l.take k).all endsOk = true)) (fun _ i _ => l.length - (intOf i).toNat)
 case atStart => exact ⟨0, Nat.zero_le _, rfl, (Ext.refl _).alloc _, by show OwnI W1.heap.size 2 1 _ _ []; rw [← hs1]; exact Own.fresh W1 2 1, Lib.hid (by simp)⟩
 case round =>
  obtain ⟨k, hk, rfl, he, hown, hall⟩ := hrel
  obtain ⟨w2, hw2⟩ : ∃ w2, w2 = wr := ⟨_, rfl⟩
  subst hw2
  obtain ⟨la, ln, lc, rfl⟩ := hown.shape
  have hsz := he.size
  have E2 : Ext w w2 := E1.trans he
  have KR2 := R1.ext he
  by_cases hlt : k < l.length
  ·
   obtain ⟨r, b1, o1, sa, sn, sc, hr1, rfl, hb1, c0, hin⟩ := HA.out k hlt
   have d0 := E2.cell c0
   have HR := Lib.hid hr1; have HO := Lib.hid hown; have HIN := Lib.hid (hin.ext E2)
   have hml := mids_len (l.take k) (ends_parts hall.out)
   have hkl : (l.take k).length = k := by simp; omega
   rw [hkl] at hml
   have HML := Lib.hid hml
   clear hr1 c0 hown hin hml hkl
   go_wp2_with fail
   refine (l18Part_c _ _ r HIN.out).mono ?_
   rintro e w4 ⟨_, rfl, hx4, pa, pn, pc, rfl, ho⟩
   have KR4 := KR2.ext hx4
   cases hu : endsOk r
   ·
    have HU := Lib.hid hu
    clear ho hu
    obtain ⟨CR4, FR4, LR4⟩ := KR4.cfl
    go_wp2_with fail
    refine bodyPost_ret (by simp [results, Tryz.results104, go_sem, CR4, FR4, LR4]; try rfl) rfl ?_
    refine ⟨_, rfl, ?_, .inr ⟨fun s hs e => ?_, rfl⟩⟩
    ·
     (repeat (refine Ext.setCell ?_ (Nat.le_refl _) _)); exact E2.trans hx4
    have h1 := shot_ends hs; rw [e, all_noJ HR.out HU.out] at h1; exact Bool.noConfusion h1
   have ho := ho hu
   have HU := Lib.hid hu; have HS := Lib.hid ho
   have hml2 := mid_len r
   have hr48 : r.length ≤ 48 := by
    have h1 := ends_part hu
    simp only [partOk, Bool.and_eq_true] at h1
    exact (unsumOk_len h1.1).2
   have hl9 : ((l.take k).flatMap mid).length + (mid r).length ≤ 1000 := by have := HML.out; omega
   have HL9 := Lib.hid hl9
   clear hu ho hl9 hml2
   go_wp2_with (first | (at_builtin; refine wp_append rfl (.tmp 40) (.tmp 41) 49 rfl 2 i0 _ 1 8 Tryz.underlying49 hi hz0 hz1 hz2 rfl dC W1.heap.size _ _ rfl (Own.ext HO.out hx4) _ ((mid r).map (.int .i64)) rfl HS.out (ints_oneCell _ _) 1000000000 (by rw [List.length_map, List.length_map]; have := HL9.out; omega) (by unfold maxLen; omega) oM (by have := hx4.size; omega) W1 (he.trans hx4) (Nat.le_refl _) ?_; rotate_right; intro v5 w5 O5 X5 _))
   go_roundw
   case rel => exact ⟨k + 1, by omega, by go_num, X5, by rw [take_snoc HR.out, List.flatMap_append]; simpa [OwnI] using O5, Lib.hid (all_stepJ HR.out hall.out HU.out)⟩
   case measure => simp [intOf]; omega
  obtain rfl : k = l.length := by omega
  have hal := hall.out
  rw [List.take_length] at hal hown
  have HAL := Lib.hid hal
  have hnl := mids_len l (ends_parts hal)
  have hnl2 : (l.flatMap mid).length ≤ 100000 := by omega
  obtain ⟨r0, b0, q0, sa, sn, sc, hr0, rfl, hb0, c0, hin⟩ := HA.out 0 hlp
  simp only [Nat.add_zero] at c0
  have hr7 : 7 ≤ r0.length := by
   have h1 := ends_part ((List.all_eq_true.1 hal) r0 (List.mem_of_getElem? hr0))
   simp only [partOk, Bool.and_eq_true, decide_eq_true_eq] at h1
   exact h1.2
  obtain ⟨_, _, e9, hc9, hm9, hat⟩ := hin.one
  injection e9 with e1 e2 e3; subst e1; subst e3
  obtain ⟨x, sb, so, hx0, rfl, _, cx⟩ := hat 0 oM
  simp only [Nat.add_zero] at cx
  have hsn : 0 < sn := by omega
  have HR0 := Lib.hid hr0; have HX0 := Lib.hid hx0
  clear e2 hat hr0 hx0 hr7 hin hc9 hal hnl hall
  go_wp2_with fail
  refine (sNumbersState_c _ _ _ (OwnI.ints hown) hnl2).mono ?_
  rintro e w3 ⟨_, rfl, hx3, hN⟩
  have KR3 := KR2.ext hx3
  have E3 : Ext w w3 := E2.trans hx3
  have hz3 := hx3.size
  rcases hN with ⟨t, ht, u, rfl, t2, t3, rfl, p2, p3⟩ | ⟨hno, rfl⟩
  rotate_left
  ·
   have HNO := Lib.hid hno
   clear hno
   go_wp2_with fail
   obtain ⟨W5, hW5⟩ : ∃ W5, W5 = w3.alloc (.cells #[.int .i64 0, .int .i64 0, .slice none 0 0, .slice none 0 0, .int .i64 0, .int .i64 0, .int .i64 0] 39) := ⟨_, rfl⟩
   rw [← hW5]
   have X5 : Ext w3 W5 := by rw [hW5]; exact (Ext.refl _).alloc _
   have B5 : Blk W5 w3.heap.size 39 #[.int .i64 0, .int .i64 0, .slice none 0 0, .slice none 0 0, .int .i64 0, .int .i64 0, .int .i64 0] := by rw [hW5]; exact Blk.new _ _ _
   have hs5 : W5.heap.size = w3.heap.size + 1 := by rw [hW5]; simp
   clear hW5
   have E5 : Ext w W5 := E3.trans X5
   have KR5 := KR3.ext X5
   have d0 := E5.cell c0; have dx := E5.cell cx
   have m0 : W5.cell? ⟨w3.heap.size, 0, none⟩ = some (.int .i64 0) := B5.cell 0
   have m1 : W5.cell? ⟨w3.heap.size, 1, none⟩ = some (.int .i64 0) := B5.cell 1
   have m2 : W5.cell? ⟨w3.heap.size, 2, none⟩ = some (.slice none 0 0) := B5.cell 2
   have m3 : W5.cell? ⟨w3.heap.size, 3, none⟩ = some (.slice none 0 0) := B5.cell 3
   have m4 : W5.cell? ⟨w3.heap.size, 4, none⟩ = some (.int .i64 0) := B5.cell 4
   have m5 : W5.cell? ⟨w3.heap.size, 5, none⟩ = some (.int .i64 0) := B5.cell 5
   have m6 : W5.cell? ⟨w3.heap.size, 6, none⟩ = some (.int .i64 0) := B5.cell 6
   have LB5 := B5.lt
   have HS5 := Lib.hid hs5
   clear hs5
   go_region_held3 (fun w' => w'.cell? ⟨b0, q0, none⟩ = some (.slice (some ⟨sb, so, none⟩) sn sc) ∧ w'.cell? ⟨sb, so, none⟩ = some (.int .i64 x) ∧ w'.cell? ⟨w3.heap.size, 0, none⟩ = some (.int .i64 0) ∧ w'.cell? ⟨w3.heap.size, 1, none⟩ = some (.int .i64 0) ∧ w'.cell? ⟨w3.heap.size, 2, none⟩ = some (.slice none 0 0) ∧ w'.cell? ⟨w3.heap.size, 3, none⟩ = some (.slice none 0 0) ∧ w'.cell? ⟨w3.heap.size, 4, none⟩ = some (.int .i64 0) ∧ w'.cell? ⟨w3.heap.size, 5, none⟩ = some (.int .i64 0) ∧ w'.cell? ⟨w3.heap.size, 6, none⟩ = some (.int .i64 0)) (first | (refine ⟨Ext.cell (w := W5) ?_ d0, Ext.cell (w := W5) ?_ dx, Ext.cell (w := W5) ?_ m0, Ext.cell (w := W5) ?_ m1, Ext.cell (w := W5) ?_ m2, Ext.cell (w := W5) ?_ m3, Ext.cell (w := W5) ?_ m4, Ext.cell (w := W5) ?_ m5, Ext.cell (w := W5) ?_ m6⟩ <;> (exact xT); done)) (fail)
   all_goals
    go_wp2_with fail
    have hrs : ∀ W, Ext w3 W → RdShot W (.agg #[.int .i64 x, .int .i64 0, .int .i64 0, .slice none 0 0, .slice none 0 0, .int .i64 0, .int .i64 0, .int .i64 0]) ⟨x, ⟨0, 0, [], [], ⟨0, 0, 0⟩⟩⟩ := fun W hW => ⟨_, _, rfl, Ints.nil 2 W, Ints.nil 5 W⟩
    refine (sShotRows_k (hrs _ xT)).mono ?_
    rintro e w6 ⟨_, rfl, hx6, FF, g6⟩
    have X6 : Ext W5 w6 := Ext.trans xT hx6
    have E6 : Ext w w6 := E5.trans X6
    have KR6 := KR5.ext X6
    have hz6 := X6.size
    have hz5 := X5.size
    have hne : w.heap.size ≠ W5.heap.size := by omega
    obtain ⟨ga, gn, gc, rfl⟩ := g6.rd.shape
    obtain ⟨CR6, FR6, LR6⟩ := KR6.cfl
    go_wp2_with fail
    refine bodyPost_ret (by simp [results, Tryz.results104, go_sem, CR6, FR6, LR6]; try rfl) rfl ?_
    refine ⟨_, rfl, ?_, .inr ⟨fun s hs e => ?_, rfl⟩⟩
    ·
     (repeat (refine Ext.setCell ?_ (Nat.le_refl _) _)); exact E6
    exact HNO.out s.State ⟨(shotOk_parts hs).2.2.1, by rw [← e, (shotRows_parse hs).2]⟩
  obtain ⟨a2, n2, k2, rfl⟩ := p2.shape
  obtain ⟨a3, n3, k3, rfl⟩ := p3.shape
  have HT := Lib.hid ht
  clear ht
  go_wp2_with fail
  obtain ⟨W5, hW5⟩ : ∃ W5, W5 = w3.alloc (.cells #[.int .i64 t.Index, .int .i64 t.Time, .slice a2 n2 k2, .slice a3 n3 k3, .int .i64 t.Lease.Holder, .int .i64 t.Lease.Epoch, .int .i64 t.Lease.Until] 39) := ⟨_, rfl⟩
  rw [← hW5]
  have X5 : Ext w3 W5 := by rw [hW5]; exact (Ext.refl _).alloc _
  have B5 : Blk W5 w3.heap.size 39 #[.int .i64 t.Index, .int .i64 t.Time, .slice a2 n2 k2, .slice a3 n3 k3, .int .i64 t.Lease.Holder, .int .i64 t.Lease.Epoch, .int .i64 t.Lease.Until] := by rw [hW5]; exact Blk.new _ _ _
  have hs5 : W5.heap.size = w3.heap.size + 1 := by rw [hW5]; simp
  clear hW5
  have E5 : Ext w W5 := E3.trans X5
  have KR5 := KR3.ext X5
  have d0 := E5.cell c0; have dx := E5.cell cx
  have m0 : W5.cell? ⟨w3.heap.size, 0, none⟩ = some (.int .i64 t.Index) := B5.cell 0
  have m1 : W5.cell? ⟨w3.heap.size, 1, none⟩ = some (.int .i64 t.Time) := B5.cell 1
  have m2 : W5.cell? ⟨w3.heap.size, 2, none⟩ = some (.slice a2 n2 k2) := B5.cell 2
  have m3 : W5.cell? ⟨w3.heap.size, 3, none⟩ = some (.slice a3 n3 k3) := B5.cell 3
  have m4 : W5.cell? ⟨w3.heap.size, 4, none⟩ = some (.int .i64 t.Lease.Holder) := B5.cell 4
  have m5 : W5.cell? ⟨w3.heap.size, 5, none⟩ = some (.int .i64 t.Lease.Epoch) := B5.cell 5
  have m6 : W5.cell? ⟨w3.heap.size, 6, none⟩ = some (.int .i64 t.Lease.Until) := B5.cell 6
  have LB5 := B5.lt
  have HS5 := Lib.hid hs5
  clear hs5
  go_region_held3 (fun w' => w'.cell? ⟨b0, q0, none⟩ = some (.slice (some ⟨sb, so, none⟩) sn sc) ∧ w'.cell? ⟨sb, so, none⟩ = some (.int .i64 x) ∧ w'.cell? ⟨w3.heap.size, 0, none⟩ = some (.int .i64 t.Index) ∧ w'.cell? ⟨w3.heap.size, 1, none⟩ = some (.int .i64 t.Time) ∧ w'.cell? ⟨w3.heap.size, 2, none⟩ = some (.slice a2 n2 k2) ∧ w'.cell? ⟨w3.heap.size, 3, none⟩ = some (.slice a3 n3 k3) ∧ w'.cell? ⟨w3.heap.size, 4, none⟩ = some (.int .i64 t.Lease.Holder) ∧ w'.cell? ⟨w3.heap.size, 5, none⟩ = some (.int .i64 t.Lease.Epoch) ∧ w'.cell? ⟨w3.heap.size, 6, none⟩ = some (.int .i64 t.Lease.Until)) (first | (refine ⟨Ext.cell (w := W5) ?_ d0, Ext.cell (w := W5) ?_ dx, Ext.cell (w := W5) ?_ m0, Ext.cell (w := W5) ?_ m1, Ext.cell (w := W5) ?_ m2, Ext.cell (w := W5) ?_ m3, Ext.cell (w := W5) ?_ m4, Ext.cell (w := W5) ?_ m5, Ext.cell (w := W5) ?_ m6⟩ <;> (exact xT); done)) (fail)
  all_goals
   go_wp2_with fail
   have hrs : ∀ W, Ext w3 W → RdShot W (.agg #[.int .i64 x, .int .i64 t.Index, .int .i64 t.Time, .slice a2 n2 k2, .slice a3 n3 k3, .int .i64 t.Lease.Holder, .int .i64 t.Lease.Epoch, .int .i64 t.Lease.Until]) ⟨x, t⟩ := fun W hW => ⟨_, _, rfl, (OwnI.ints p2).ext hW, (OwnI.ints p3).ext hW⟩
   refine (sShotRows_k (hrs _ xT)).mono ?_
   rintro e w6 ⟨_, rfl, hx6, FF, g6⟩
   have X6 : Ext W5 w6 := Ext.trans xT hx6
   have E6 : Ext w w6 := E5.trans X6
   have KR6 := KR5.ext X6
   have hz6 := X6.size
   have hz5 := X5.size
   have hne : w.heap.size ≠ W5.heap.size := by omega
   have B6 : Blk w6 W5.heap.size 78 _ := Blk.ext (by exact blkT) hx6
   (try simp only [List.setIfInBounds_toArray, List.set_cons_zero, List.set_cons_succ] at B6)
   clear d0 dx m0 m1 m2 m3 m4 m5 m6 hrs
   have P2 : OwnI W1.heap.size 113 2 w6 (.slice a2 n2 k2) (flPair t.Pairs) := OwnI.mono (OwnI.ext p2 (X5.trans X6)) oM
   have P3 : OwnI W1.heap.size 95 5 w6 (.slice a3 n3 k3) (flJob t.Jobs) := OwnI.mono (OwnI.ext p3 (X5.trans X6)) oM
   obtain ⟨S, hS⟩ : ∃ S : DShot, S = ⟨x, t⟩ := ⟨_, rfl⟩
   rw [← hS] at g6
   have HS := Lib.hid hS
   clear hS
   obtain ⟨ga, gc, rfl, hgc, hgm, hga⟩ := Nest.rows g6.rd
   unfold maxLen at hgm
   have HG := Lib.hid hga
   clear hga
   by_cases hlen : (shotRows S).length = l.length
   rotate_left
   ·
    have hlb : (((shotRows S).length : Int) != ((l.length : Nat) : Int)) = true := by simp; omega
    have hlb2 : (((shotRows S).length : Int) == ((l.length : Nat) : Int)) = false := by simp; omega
    have HLEN := Lib.hid hlen
    obtain ⟨CR6, FR6, LR6⟩ := KR6.cfl
    go_wp2_with fail
    refine bodyPost_ret (by simp [results, Tryz.results104, go_sem, CR6, FR6, LR6]; try rfl) rfl ?_
    refine ⟨_, rfl, ?_, .inr ⟨fun s hs e => ?_, rfl⟩⟩
    ·
     (repeat (refine Ext.setCell ?_ (Nat.le_refl _) _)); exact E6
    have h9 := shot_uniq HR0.out HX0.out HT.out hs e; rw [← HS.out] at h9; subst h9; exact HLEN.out (by rw [e])
   have HLEN := Lib.hid hlen
   rw [hlen] at HG hgc ⊢
   clear hlen
   have CB6 := B6.cell; have LB6 := B6.lt
   obtain ⟨CR6, FR6, LR6⟩ := KR6.cfl
   go_wp2_with fail
   go_loopw [12] (fun i wr => ∃ k : Nat, k ≤ l.length ∧ i = .int .i64 k ∧ Ext w6 wr ∧ Hid ((shotRows S).take k = l.take k)) (fun i _ => l.length - (intOf i).toNat)
   case atStart => exact ⟨0, Nat.zero_le _, rfl, Ext.refl _, Lib.hid (by simp)⟩
   case round =>
    obtain ⟨k, hk, rfl, he9, heq⟩ := hrel
    have KR7 := KR6.ext he9
    have B7 := B6.ext he9
    have CB7 := B7.cell; have LB7 := B7.lt
    obtain ⟨CR7, FR7, LR7⟩ := KR7.cfl
    by_cases hlt : k < l.length
    ·
     obtain ⟨ra, b1, o1, xa, xn, xc, hra, rfl, _, ca, ia⟩ := HG.out k hlt
     obtain ⟨rb, b2, o2', ya, yn, yc, hrb, r9, _, cb, ib⟩ := HA.out k hlt
     injection r9 with r9; injection r9 with r91 r92; subst r91; subst r92
     have da := he9.cell ca
     have db := (E6.trans he9).cell cb
     have HRA := Lib.hid hra; have HRB := Lib.hid hrb
     have ia' := Lib.hid (ia.ext he9); have ib' := Lib.hid (ib.ext (E6.trans he9))
     clear hra hrb ca cb ia ib CB6 CR6 FR6
     by_cases hab : ra = rb
     ·
      have hab' : decide (ra = rb) = true := by simp [hab]
      have HAB := Lib.hid hab
      clear hab
      go_wp2_with fail
      refine wp_region_ext (by kernel_rfl) (by kernel_rfl) ?_
      repeat (first | go_big_quiet_skip | (go_big_quiet_want; first | (refine quiet_load _ _ _ ?_ rfl rfl (fun wq hq => ?_) ?_; rotate_left; (focus (have z0 := hq.cell da; have z1 := hq.cell db; go_simp; first | done | rfl)); (try simp only [redA, Act.put]); go_big_quiet_on) | (go_big_quiet_op; first | go_big_quiet_on | (refine ⟨_, fun _ _ => rfl, ?_⟩; go_big_quiet_on) | (apply Exists.intro; refine ⟨fun wq hq => ?_, ?_⟩; (focus (exact call_ext hq (by have c := sSameRow_c wq _ _ ra rb (ia'.out.ext hq) (ib'.out.ext hq); rw [hab'] at c; exact c))); go_big_quiet_on))))
      refine wpQuiet_nil ?_
      intro w7 hx7
      go_wp2_with fail
      go_roundw
      case rel => exact ⟨k + 1, by omega, by go_num, he9.trans hx7, Lib.hid (by rw [take_snoc HRA.out, take_snoc HRB.out, heq.out, HAB.out])⟩
      case measure => simp [intOf]; omega
     have hab' : decide (ra = rb) = false := by simp [hab]
     have HAB := Lib.hid hab
     clear hab CB7
     go_wp2_with fail
     refine wp_region_ext (by kernel_rfl) (by kernel_rfl) ?_
     repeat (first | go_big_quiet_skip | (go_big_quiet_want; first | (refine quiet_load _ _ _ ?_ rfl rfl (fun wq hq => ?_) ?_; rotate_left; (focus (have z0 := hq.cell da; have z1 := hq.cell db; go_simp; first | done | rfl)); (try simp only [redA, Act.put]); go_big_quiet_on) | (go_big_quiet_op; first | go_big_quiet_on | (refine ⟨_, fun _ _ => rfl, ?_⟩; go_big_quiet_on) | (apply Exists.intro; refine ⟨fun wq hq => ?_, ?_⟩; (focus (exact call_ext hq (by have c := sSameRow_c wq _ _ ra rb (ia'.out.ext hq) (ib'.out.ext hq); rw [hab'] at c; exact c))); go_big_quiet_on))))
     refine wpQuiet_nil ?_
     intro w7 hx7
     have KR8 := KR7.ext hx7
     clear CR7 FR7
     obtain ⟨CR8, FR8, LR8⟩ := KR8.cfl
     go_wp2_with fail
     refine bodyPost_ret (by simp [results, Tryz.results104, go_sem, CR8, FR8, LR8]; try rfl) rfl ?_
     refine ⟨_, rfl, ?_, .inr ⟨fun s hs e => ?_, rfl⟩⟩
     ·
      (repeat (refine Ext.setCell ?_ (Nat.le_refl _) _)); exact (E6.trans he9).trans hx7
     have h9 := shot_uniq HR0.out HX0.out HT.out hs e; rw [← HS.out] at h9; subst h9; have h8 := HRA.out; rw [e, HRB.out] at h8; exact HAB.out (Option.some.inj h8).symm
    obtain rfl : k = l.length := by omega
    have hfin : shotRows S = l := by
     have h9 := heq.out
     rw [List.take_length, List.take_of_length_le (by rw [HLEN.out]; exact Nat.le_refl _)] at h9
     exact h9
    have HF := Lib.hid hfin
    clear hfin CB6 CR6 FR6
    go_wp2_with fail
    refine bodyPost_ret (by simp [results, Tryz.results104, go_sem, CR7, FR7, LR7, CB7, LB7]; try rfl) rfl ?_
    refine ⟨_, rfl, ?_, .inl ⟨S, shotRows_ne (by rw [HF.out]; exact hlp), HF.out, _, rfl, ?_⟩⟩
    ·
     (repeat (refine Ext.setCell ?_ (Nat.le_refl _) _)); exact E6.trans he9
    rw [HS.out]
    exact ⟨_, _, rfl, OwnI.mono (OwnI.keep (OwnI.ext P2 he9) chgT) oM, OwnI.mono (OwnI.keep (OwnI.ext P3 he9) chgT) oM⟩
end Go.Proofs.YtlnkggpemdpemaaGreat
namespace Go.G8
open Go.RowKit Go.Proofs.YtlnkggpemdpemaaGreat
open Classical in
noncomputable def readShot (l : List (List Int)) : Option DShot := if h : ∃ s, shotOk s = true ∧ shotRows s = l then some h.choose else none
noncomputable def rsShot (l : List (List Int)) : DShot := (readShot l).getD ⟨0, ⟨0, 0, [], [], ⟨0, 0, 0⟩⟩⟩
noncomputable def rsOk (l : List (List Int)) : Bool := (readShot l).isSome
theorem readShot_some {l : List (List Int)} {s : DShot} (h : shotOk s = true) (e : shotRows s = l) : readShot l = some s := by
 have hx : ∃ s, shotOk s = true ∧ shotRows s = l := ⟨s, h, e⟩
 unfold readShot
 rw [dif_pos hx]
 have h2 := hx.choose_spec
 rw [shotRows_inj h2.1 h (h2.2.trans e.symm)]
theorem readShot_none {l : List (List Int)} (h : ∀ s, shotOk s = true → shotRows s ≠ l) : readShot l = none := by
 unfold readShot
 rw [dif_neg]
 rintro ⟨s, h1, h2⟩
 exact h s h1 h2
theorem readShot_is {l : List (List Int)} {s : DShot} (h : readShot l = some s) : shotOk s = true ∧ shotRows s = l := by
 unfold readShot at h
 split at h
 ·
  rename_i hx
  have h2 := hx.choose_spec
  rw [← Option.some.inj h]
  exact h2
 cases h
end Go.G8
namespace Go.Proofs.YtlnkggpemdpemaaGreat
open Go.RowKit Go.G8
theorem rs_post {w : World} {l : List (List Int)} {r : Value} {w' : World} (h : (∃ s, shotOk s = true ∧ shotRows s = l ∧ ∃ u, r = .tuple #[u, .bool true] ∧ IsShot w.heap.size w' u s) ∨ ((∀ s, shotOk s = true → shotRows s ≠ l) ∧ r = .tuple #[.agg #[.int .i64 0, .int .i64 0, .int .i64 0, .slice none 0 0, .slice none 0 0, .int .i64 0, .int .i64 0, .int .i64 0], .bool false])) :
  ∃ u, r = .tuple #[u, .bool (rsOk l)] ∧ ∃ F, OwShot w.heap.size w' u (rsShot l) F := by
 rcases h with ⟨s, h1, h2, u, rfl, hu⟩ | ⟨h, rfl⟩
 ·
  have e := readShot_some h1 h2
  refine ⟨u, by simp [rsOk, e], ?_⟩
  rw [show rsShot l = s by simp [rsShot, e]]
  exact hu.ow
 have e := readShot_none h
 refine ⟨_, by simp [rsOk, e]; rfl, ?_⟩
 rw [show rsShot l = ⟨0, ⟨0, 0, [], [], ⟨0, 0, 0⟩⟩⟩ by simp [rsShot, e]]
 exact IsShot.ow ⟨_, _, rfl, OwnI.nil _ _ _ _, OwnI.nil _ _ _ _⟩
theorem sRowsShot_f {w : World} {v : Value} {l : List (List Int)} (h : RdRows w v l) (hr : l.length ≤ 2000000) : Calls Tryz.prog 104 #[v] w (Ret w fun r w' => ∃ u, r = .tuple #[u, .bool (rsOk l)] ∧ ∃ F, OwShot w.heap.size w' u (rsShot l) F) :=
 (sRowsShot_k h hr).mono fun _ _ ⟨v, e, x, q⟩ => ⟨v, e, x, rs_post q⟩
theorem rowsShot_f {w : World} {v : Value} {l : List (List Int)} (h : RdRows w v l) (hr : l.length ≤ 2000000) : Calls Tryz.prog 97 #[v] w (Ret w fun r w' => ∃ u, r = .tuple #[u, .bool (rsOk l)] ∧ ∃ F, OwShot w.heap.size w' u (rsShot l) F) :=
 (rowsShot_k h hr).mono fun _ _ ⟨v, e, x, q⟩ => ⟨v, e, x, rs_post q⟩
end Go.Proofs.YtlnkggpemdpemaaGreat
