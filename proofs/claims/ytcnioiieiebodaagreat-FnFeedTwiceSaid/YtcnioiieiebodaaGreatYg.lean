/- Contracts and plain laws: RS Cu Cu2 NS RS2 NS2 NS3 RS3 RS4. -/
import Derived.Test.YtcnioiieiebodaaGreatYa
import Derived.Test.YtcnioiieiebodaaGreatYv
import Derived.Test.YtcnioiieiebodaaGreatYe
import Derived.Test.YtcnioiieiebodaaGreatYd
import Derived.Test.YtcnioiieiebodaaGreatYf
import Derived.Test.YtcnioiieiebodaaGreatYb
set_option linter.unusedSimpArgs false
set_option linter.unusedVariables false
set_option maxHeartbeats 8000000
set_option maxRecDepth 100000
namespace Go.G8
open Go.RowKit
def endsOk (r : List Int) : Bool := unsumOk r && (decide (8 ≤ r.length) && (decide (r[r.length - 2]? = r[0]?) && decide (r[r.length - 3]? = r[1]?)))
theorem unsumOk_len {r : List Int} (h : unsumOk r = true) : 1 ≤ r.length ∧ r.length ≤ 48 := by
 simp only [unsumOk, Bool.and_eq_true, decide_eq_true_eq] at h
 exact ⟨h.1, (rowOk_len h.2.1).1⟩
theorem mid_eq {r : List Int} {q : Nat} (hq : q = r.length - 3) : ((r.take (r.length - 1)).take q).drop 4 = mid r := by
 rw [List.drop_take, mid, hq]; congr 1
theorem mid_len (r : List Int) : (mid r).length ≤ r.length := by simp only [mid, List.length_take, List.length_drop]; omega
theorem mids_len (l : List (List Int)) (h : l.all partOk = true) : (l.flatMap mid).length ≤ l.length * 48 := by
 induction l with
 | nil => simp
 | cons x l ih =>
  simp only [List.all_cons, Bool.and_eq_true] at h
  have h1 := ih h.2
  have h2 := mid_len x
  have h3 := h.1
  simp only [partOk, Bool.and_eq_true] at h3
  have h4 := (unsumOk_len h3.1).2
  simp only [List.flatMap_cons, List.length_append, List.length_cons, Nat.add_mul]
  omega
end Go.G8
namespace Go.Proofs.YtcnioiieiebodaaGreat
open Go.RowKit Go.G8
theorem take_get {r : List Int} {m j : Nat} {x : Int} (h : (r.take m)[j]? = some x) : r[j]? = some x := by
 rw [List.getElem?_take] at h
 split at h
 ·
  exact h
 cases h
theorem l18Part_c (w : World) (v : Value) (r : List Int) (h : Ints 1 w v r) :
  Calls Tryz.prog 246 #[v] w (Ret w fun x w' => ∃ a n c, x = .tuple #[.slice a n c, .bool (endsOk r)] ∧ (endsOk r = true → Ints 1 w' (.slice a n c) (mid r))) := by
 go_enter Tryz.func246, Tryz.ntmps246
 go_wp2_with fail
 refine (sUnsummed_c _ _ r h).mono ?_
 rintro e w1 ⟨_, rfl, hx1, ta, tn, tc, rfl, ho⟩
 cases hu : unsumOk r
 ·
  have HU := Lib.hid hu
  clear ho hu
  go_wp2_with fail
  have hne : endsOk r = false := by simp [endsOk, HU.out]
  have HNE := Lib.hid hne
  clear hne
  go_quiet (fail)
  go_wp2_with fail
  go_ret2
  refine ⟨_, rfl, ?_, _, _, _, by rw [HNE.out]; rfl, fun h => by rw [HNE.out] at h; exact Bool.noConfusion h⟩
  exact xT
 have ho := ho hu
 have hrl := unsumOk_len hu
 obtain ⟨_, _, e9, hcap9, hm9, hat⟩ := ho.ints.one
 injection e9 with e1 e2 e3; subst e1; subst e3
 have htn : tn = r.length - 1 := by rw [e2]; simp
 rw [← e2] at hcap9 hat
 unfold maxLen at hm9
 have htnl : tn ≤ 48 := by omega
 have HTN := Lib.hid htn; have HU := Lib.hid hu
 clear e2 hu
 by_cases h7 : (tn : Int) < 7
 ·
  have H7 := Lib.hid h7
  clear hat ho htn
  go_wp2_with fail
  have hne : endsOk r = false := by simp only [endsOk, Bool.and_eq_false_iff, decide_eq_false_iff_not]; refine .inr (.inl ?_); have := HTN.out; have := H7.out; omega
  have HNE := Lib.hid hne
  clear hne
  go_quiet (fail)
  go_wp2_with fail
  go_ret2
  refine ⟨_, rfl, ?_, _, _, _, by rw [HNE.out]; rfl, fun h => by rw [HNE.out] at h; exact Bool.noConfusion h⟩
  exact xT
 have hd7 : decide ((tn : Int) < 7) = false := by simp only [decide_eq_false_iff_not]; exact h7
 obtain ⟨q1, hq1⟩ : ∃ q1 : Nat, q1 = tn - 1 := ⟨_, rfl⟩
 obtain ⟨q2, hq2⟩ : ∃ q2 : Nat, q2 = tn - 2 := ⟨_, rfl⟩
 have hq1I : (tn : Int) - 1 = (q1 : Int) := by omega
 have hq2I : (tn : Int) - 2 = (q2 : Int) := by omega
 have hw1 : IntKind.i64.wrap (q1 : Int) = (q1 : Int) := by rw [IntKind.wrap_i64]; omega
 have hw2 : IntKind.i64.wrap (q2 : Int) = (q2 : Int) := by rw [IntKind.wrap_i64]; omega
 obtain ⟨x0, b1, o1, g0, rfl, _, c0⟩ := hat 0 oM
 obtain ⟨x1, b1', o1', g1, r2, _, c1⟩ := hat 1 oM
 injection r2 with r2; injection r2 with r2 r3; subst r2; subst r3
 obtain ⟨y1, b1', o1', k1, r2, _, d1⟩ := hat q1 oM
 injection r2 with r2; injection r2 with r2 r3; subst r2; subst r3
 obtain ⟨y2, b1', o1', k2, r2, _, d2⟩ := hat q2 oM
 injection r2 with r2; injection r2 with r2 r3; subst r2; subst r3
 simp only [Nat.add_zero] at c0
 have g0 := take_get g0; have g1 := take_get g1; have k1 := take_get k1; have k2 := take_get k2
 rw [show q1 = r.length - 2 by omega] at k1
 rw [show q2 = r.length - 3 by omega] at k2
 have G0 := Lib.hid g0; have G1 := Lib.hid g1; have K1 := Lib.hid k1; have K2 := Lib.hid k2
 have hb1 : q1 < tn := by omega
 have hb2 : q2 < tn := by omega
 have hb3 : (0 : Int) < (tn : Int) := by omega
 have hb4 : (1 : Int) < (tn : Int) := by omega
 have h8 : 8 ≤ r.length := by omega
 have hc4 : tc ≠ 4 := by omega
 have hs := (OwnI.ints ho).sliced (l := 4) (m := q2) oM oM
 simp only [Go.sliced, if_neg hc4, Nat.mul_one, Option.map_some, add_lit0] at hs
 rw [mid_eq (r := r) oM] at hs
 have HS := Lib.hid hs; have H8 := Lib.hid h8
 have hq4 : (4 : Int) ≤ (q2 : Int) := by omega
 have hqc : (q2 : Int) ≤ (tc : Int) := by omega
 have hq4n : 4 ≤ q2 := by omega
 have hqcn : q2 ≤ tc := by omega
 clear hat ho htn hq1 hq2 g0 g1 k1 k2 hs h8 hrl
 by_cases ha : y1 = x0
 rotate_left
 ·
  have hab : (y1 != x0) = true := by simp [ha]
  have hab2 : (y1 == x0) = false := by simp [ha]
  have hab3 : decide (y1 = x0) = false := by simp [ha]
  have HA := Lib.hid ha
  go_wp2_with fail
  have hne : endsOk r = false := by simp only [endsOk, Bool.and_eq_false_iff, decide_eq_false_iff_not]; refine .inr (.inr (.inl ?_)); rw [K1.out, G0.out]; intro e; exact HA.out (Option.some.inj e)
  have HNE := Lib.hid hne
  clear hne
  refine wp_region_ext (by kernel_rfl) (by kernel_rfl) ?_
  repeat (first | go_big_quiet_skip | (go_big_quiet_want; first | (refine quiet_load _ _ _ ?_ rfl rfl (fun wq hq => ?_) ?_; rotate_left; (focus (have z0 := hq.cell c0; have z1 := hq.cell c1; have z2 := hq.cell d1; have z3 := hq.cell d2; go_simp; first | done | rfl)); (try simp only [redA, Act.put]); go_big_quiet_on) | (go_big_quiet_op; first | go_big_quiet_on | (refine ⟨_, fun _ _ => rfl, ?_⟩; go_big_quiet_on) | (apply Exists.intro; refine ⟨fun wq hq => ?_, ?_⟩; (focus (fail)); go_big_quiet_on))))
  refine wpQuiet_nil ?_
  intro w2 hx2
  go_wp2_with fail
  go_ret2
  refine ⟨_, rfl, ?_, _, _, _, by rw [HNE.out]; rfl, fun h => by rw [HNE.out] at h; exact Bool.noConfusion h⟩
  exact xT
 subst ha
 by_cases hb : y2 = x1
 rotate_left
 ·
  have hab : (y2 != x1) = true := by simp [hb]
  have hab2 : (y2 == x1) = false := by simp [hb]
  have HA := Lib.hid hb
  clear hb
  go_wp2_with fail
  have hne : endsOk r = false := by simp only [endsOk, Bool.and_eq_false_iff, decide_eq_false_iff_not]; refine .inr (.inr (.inr ?_)); rw [K2.out, G1.out]; intro e; exact HA.out (Option.some.inj e)
  have HNE := Lib.hid hne
  clear hne
  refine wp_region_ext (by kernel_rfl) (by kernel_rfl) ?_
  repeat (first | go_big_quiet_skip | (go_big_quiet_want; first | (refine quiet_load _ _ _ ?_ rfl rfl (fun wq hq => ?_) ?_; rotate_left; (focus (have z0 := hq.cell c0; have z1 := hq.cell c1; have z2 := hq.cell d1; have z3 := hq.cell d2; go_simp; first | done | rfl)); (try simp only [redA, Act.put]); go_big_quiet_on) | (go_big_quiet_op; first | go_big_quiet_on | (refine ⟨_, fun _ _ => rfl, ?_⟩; go_big_quiet_on) | (apply Exists.intro; refine ⟨fun wq hq => ?_, ?_⟩; (focus (fail)); go_big_quiet_on))))
  refine wpQuiet_nil ?_
  intro w2 hx2
  go_wp2_with fail
  go_ret2
  refine ⟨_, rfl, ?_, _, _, _, by rw [HNE.out]; rfl, fun h => by rw [HNE.out] at h; exact Bool.noConfusion h⟩
  exact xT
 subst hb
 have hy : endsOk r = true := by
  simp only [endsOk, Bool.and_eq_true, decide_eq_true_eq]
  exact ⟨HU.out, H8.out, by rw [K1.out, G0.out], by rw [K2.out, G1.out]⟩
 have HY := Lib.hid hy
 clear hy
 go_wp2_with fail
 go_quiet (fail)
 go_wp2_with fail
 go_ret2
 refine ⟨_, rfl, ?_, _, _, _, by rw [HY.out]; rfl, fun _ => HS.out.ext ?_⟩
 ·
  exact xT
 exact xT
end Go.Proofs.YtcnioiieiebodaaGreat
namespace Go.G8
open Go.RowKit Go.Proofs.YtcnioiieiebodaaGreat
theorem shot_uniq {l : List (List Int)} {r : List Int} {x : Int} {t : DState} (h0 : l[0]? = some r) (h1 : r[0]? = some x) (ht : parsed (l.flatMap mid) t) {s : DShot} (hs : shotOk s = true) (e : shotRows s = l) : s = ⟨x, t⟩ := by
 have h2 : parsed (l.flatMap mid) s.State := ⟨(shotOk_parts hs).2.2.1, by rw [← e, (shotRows_parse hs).2]⟩
 have h3 := parsed_uniq h2 ht
 obtain ⟨r', hr', h4, _⟩ := shotRows_first hs
 rw [e, h0] at hr'
 obtain rfl := Option.some.inj hr'
 rw [h1] at h4
 obtain ⟨a, b⟩ := s
 have h5 := Option.some.inj h4
 simp only [] at h3 h5
 rw [h3, h5]
theorem shotRows_ne {s : DShot} (h : 0 < (shotRows s).length) : shotOk s = true := by
 cases hs : shotOk s
 ·
  simp [shotRows, hs] at h
 rfl
end Go.G8
namespace Go.Proofs.YtcnioiieiebodaaGreat
open Go.RowKit Go.G8
theorem sRowPairs_c (w : World) (v : Value) (l : List DPair) (h : Ints 1 w v ((l.length : Int) :: flPair l)) (hl : l.length ≤ 10) :
  Calls Tryz.prog 252 #[v] w (Ret w fun r w' => ∃ a n c, r = .tuple #[.slice a n c, .bool (pairsOk l)] ∧ (pairsOk l = true → OwnI w.heap.size 157 2 w' (.slice a n c) (flPair l))) := by
 obtain ⟨_, _, _, rfl, hlen, hcap, hm, hnil, hat⟩ := h
 rename_i a N cap
 have hN : N = 1 + 2 * l.length := by simp [length_flPair] at hlen; omega
 obtain ⟨b1, o1, rfl⟩ : ∃ b1 o1, a = some ⟨b1, o1, none⟩ := by
  cases hpa : a with
  | none => have := hnil hpa; omega
  | some q => obtain ⟨b, o, sp⟩ := q; obtain ⟨rfl, _⟩ := hat b o sp hpa oM; exact ⟨b, o, rfl⟩
 obtain ⟨_, hbl, hcc⟩ := hat b1 o1 none rfl oM
 have x00 : w.cell? ⟨b1, o1, none⟩ = some (.int .i64 (l.length : Int)) := by have := hcc 0 (.int .i64 (l.length : Int)) rfl; simpa using this
 have hN0 : 0 < N := by omega
 have hNl : N ≤ 100 := by omega
 have hr1 : (N : Int) % 2 = 1 := by omega
 have hr2 : ((N : Nat) : Int).tmod 2 = 1 := by rw [Int.tmod_eq_emod_of_nonneg oM]; omega
 have hr3 : decide ((N : Int) > 21) = false := by simp; omega
 have hr4 : ((N : Int)) ≤ 21 := by omega
 unfold maxLen at hm
 have HC := Lib.hid hcc; have HN := Lib.hid hN
 obtain ⟨i0, hi, hz0, hz1, hz2⟩ := info_parts info_Pair
 clear hcc hat hnil hlen hN
 go_enter Tryz.func252, Tryz.ntmps252
 go_wp2_with fail
 go_loopw [4, 5] (fun out i wr => ∃ k : Nat, k ≤ l.length ∧ i = .int .i64 ((1 + 2 * k : Nat) : Int) ∧ Ext w wr ∧ OwnI w.heap.size 157 2 wr out (flPair (l.take k))) (fun _ i _ => 1000 - (intOf i).toNat)
 case atStart => exact ⟨0, Nat.zero_le _, by go_num, (Ext.refl _).alloc _, show OwnI w.heap.size 157 2 _ _ [] from Own.fresh w 157 2⟩
 case round =>
  obtain ⟨k, hk, rfl, he, hown⟩ := hrel
  obtain ⟨la, ln, lc, rfl⟩ := hown.shape
  have hsz := he.size
  by_cases hlt : k < l.length
  ·
   obtain ⟨d, hd⟩ : ∃ d, l[k]? = some d := ⟨_, List.getElem?_eq_getElem hlt⟩
   have HD := Lib.hid hd; have HO := Lib.hid hown
   obtain ⟨i, hi'⟩ : ∃ i : Nat, i = 1 + 2 * k := ⟨_, rfl⟩
   rw [← hi']
   have hnk := HN.out
   have hil : i ≤ 100 := by omega
   have hq0 : (i : Int) < (N : Int) := by omega
   have hr0 : i < N := by omega
   have hq1 : (i : Int) + 1 < (N : Int) := by omega
   have hr1 : i + 1 < N := by omega
   have hwi1 : IntKind.i64.wrap ((i : Int) + 1) = (i : Int) + 1 := by rw [IntKind.wrap_i64]; omega
   have hnn1 : (0 : Int) ≤ (i : Int) + 1 := by omega
   have htn1 : ((i : Int) + 1).toNat = i + 1 := by omega
   have hcc := HC.out
   have x0 : w.cell? ⟨b1, o1 + i, none⟩ = some (.int .i64 d.Key) := by
    have h8 : (((l.length : Int) :: flPair l).map (Value.int .i64))[i]? = some (.int .i64 d.Key) := by
     rw [List.getElem?_map, show i = (k * 2) + 1 by omega, List.getElem?_cons_succ]
     have := flat_get DPair.ints (n := 2) (fun _ => rfl) l k 0 d HD.out dC
     rw [show (flPair l)[k * 2]? = (DPair.ints d)[0]? from this]
     rfl
    exact hcc (i) _ h8
   have x1 : w.cell? ⟨b1, o1 + (i + 1), none⟩ = some (.int .i64 d.Value) := by
    have h8 : (((l.length : Int) :: flPair l).map (Value.int .i64))[i + 1]? = some (.int .i64 d.Value) := by
     rw [List.getElem?_map, show i + 1 = (k * 2 + 1) + 1 by omega, List.getElem?_cons_succ]
     have := flat_get DPair.ints (n := 2) (fun _ => rfl) l k 1 d HD.out dC
     rw [show (flPair l)[k * 2 + 1]? = (DPair.ints d)[1]? from this]
     rfl
    exact hcc (i + 1) _ h8
   have HI := Lib.hid hi'
   have hlk : (flPair (l.take k)).length = k * 2 := by rw [length_flPair, List.length_take]; congr 1; omega
   have d0 := he.cell x0
   have d1 := he.cell x1
   clear hd hown hcc hi' hnk
   go_wp2_with fail
   go_region_held3 (fun w' => w'.cell? ⟨b1, o1 + i, none⟩ = some (.int .i64 d.Key) ∧ w'.cell? ⟨b1, o1 + (i + 1), none⟩ = some (.int .i64 d.Value)) (first | (refine ⟨Ext.cell (w := w) ?_ x0, Ext.cell (w := w) ?_ x1⟩ <;> (exact xT); done)) (first | (refine step_append_own rfl (.tmp 23) (.tmp 34) 58 rfl 157 i0 _ 2 16 Tryz.underlying58 hi hz0 hz1 hz2 rfl dC w.heap.size (.slice la ln lc) _ rfl (Own.ext HO.out xT) ⟨wr.heap.size, 0, none⟩ 1 1 ([d.Key, d.Value].map (.int .i64)) rfl (by simp) (fun j u hu => by rw [add_lit0, Nat.zero_add, ((Blk.new wr _ _).drew).cell]; simpa using hu) (ints_oneCell _ _) oM 1000 (by simp [hlk]; omega) (by unfold maxLen; omega) oM (by simp; omega) ?_; intro v3 wa hown1 hga; have hxa : Ext w wa := Ext.own (v := .slice la ln lc) (he.trans xT) (Own.ext HO.out xT) (Nat.le_refl _) hga))
   all_goals
    have hown3 : OwnI w.heap.size 157 2 wa v3 (flPair (l.take k) ++ [d.Key, d.Value]) := by simpa [OwnI] using hown1
    go_wp2_with fail
    go_roundw
    case rel => exact ⟨k + 1, by omega, by rw [HI.out]; go_num, hxa, by rw [take_snoc HD.out, flPair_snoc]; exact hown3⟩
    case measure => simp [intOf]; omega
  obtain rfl : k = l.length := by omega
  rw [List.take_length] at hown
  obtain ⟨_, _, e9, _⟩ := hown.ints.recs (f := DPair.ints) (fun _ => rfl) dC
  injection e9 with e1 e2 e3
  subst e1; subst e2; subst e3
  have hNI : ¬ ((1 + 2 * l.length : Nat) : Int) < (N : Int) := by have := HN.out; omega
  have hNI' : ¬ (1 + 2 * l.length : Nat) < N := by have := HN.out; omega
  obtain ⟨i, hi'⟩ : ∃ i : Nat, i = 1 + 2 * l.length := ⟨_, rfl⟩
  rw [← hi'] at hNI hNI' ⊢
  have d00 := he.cell x00
  have HO := Lib.hid hown
  clear hi' hown
  cases hok : pairsOk l
  all_goals
   have HK := Lib.hid hok
   clear hok
   go_wp2_with (first | (go_at_call 123; refine (sPairsOk_c _ _ _ (OwnI.ints HO.out)).mono ?_; rintro e w3 ⟨rfl, hx3⟩; rw [HK.out]))
   go_ret2
  ·
   refine ⟨_, rfl, ?_, _, _, _, by rw [HK.out]; rfl, fun h => by rw [HK.out] at h; cases h⟩
   exact xT
  refine ⟨_, rfl, ?_, _, _, _, by rw [HK.out]; rfl, fun _ => OwnI.ext HO.out hx3⟩
  exact he.trans hx3
theorem sRowOrders_c (w : World) (v : Value) (l : List DJob) (h : Ints 1 w v ((l.length : Int) :: flJob l)) (hl : l.length ≤ 8) :
  Calls Tryz.prog 253 #[v] w (Ret w fun r w' => ∃ a n c, r = .tuple #[.slice a n c, .bool (jobsOk l)] ∧ (jobsOk l = true → OwnI w.heap.size 142 5 w' (.slice a n c) (flJob l))) := by
 obtain ⟨_, _, _, rfl, hlen, hcap, hm, hnil, hat⟩ := h
 rename_i a N cap
 have hN : N = 1 + 5 * l.length := by simp [length_flJob] at hlen; omega
 obtain ⟨b1, o1, rfl⟩ : ∃ b1 o1, a = some ⟨b1, o1, none⟩ := by
  cases hpa : a with
  | none => have := hnil hpa; omega
  | some q => obtain ⟨b, o, sp⟩ := q; obtain ⟨rfl, _⟩ := hat b o sp hpa oM; exact ⟨b, o, rfl⟩
 obtain ⟨_, hbl, hcc⟩ := hat b1 o1 none rfl oM
 have x00 : w.cell? ⟨b1, o1, none⟩ = some (.int .i64 (l.length : Int)) := by have := hcc 0 (.int .i64 (l.length : Int)) rfl; simpa using this
 have hN0 : 0 < N := by omega
 have hNl : N ≤ 100 := by omega
 have hr1 : (N : Int) % 5 = 1 := by omega
 have hr2 : ((N : Nat) : Int).tmod 5 = 1 := by rw [Int.tmod_eq_emod_of_nonneg oM]; omega
 have hr3 : decide ((N : Int) > 41) = false := by simp; omega
 have hr4 : ((N : Int)) ≤ 41 := by omega
 unfold maxLen at hm
 have HC := Lib.hid hcc; have HN := Lib.hid hN
 obtain ⟨i0, hi, hz0, hz1, hz2⟩ := info_parts info_Job
 clear hcc hat hnil hlen hN
 go_enter Tryz.func253, Tryz.ntmps253
 go_wp2_with fail
 go_loopw [4, 5] (fun out i wr => ∃ k : Nat, k ≤ l.length ∧ i = .int .i64 ((1 + 5 * k : Nat) : Int) ∧ Ext w wr ∧ OwnI w.heap.size 142 5 wr out (flJob (l.take k))) (fun _ i _ => 1000 - (intOf i).toNat)
 case atStart => exact ⟨0, Nat.zero_le _, by go_num, (Ext.refl _).alloc _, show OwnI w.heap.size 142 5 _ _ [] from Own.fresh w 142 5⟩
 case round =>
  obtain ⟨k, hk, rfl, he, hown⟩ := hrel
  obtain ⟨la, ln, lc, rfl⟩ := hown.shape
  have hsz := he.size
  by_cases hlt : k < l.length
  ·
   obtain ⟨d, hd⟩ : ∃ d, l[k]? = some d := ⟨_, List.getElem?_eq_getElem hlt⟩
   have HD := Lib.hid hd; have HO := Lib.hid hown
   obtain ⟨i, hi'⟩ : ∃ i : Nat, i = 1 + 5 * k := ⟨_, rfl⟩
   rw [← hi']
   have hnk := HN.out
   have hil : i ≤ 100 := by omega
   have hq0 : (i : Int) < (N : Int) := by omega
   have hr0 : i < N := by omega
   have hq1 : (i : Int) + 1 < (N : Int) := by omega
   have hr1 : i + 1 < N := by omega
   have hwi1 : IntKind.i64.wrap ((i : Int) + 1) = (i : Int) + 1 := by rw [IntKind.wrap_i64]; omega
   have hnn1 : (0 : Int) ≤ (i : Int) + 1 := by omega
   have htn1 : ((i : Int) + 1).toNat = i + 1 := by omega
   have hq2 : (i : Int) + 2 < (N : Int) := by omega
   have hr2 : i + 2 < N := by omega
   have hwi2 : IntKind.i64.wrap ((i : Int) + 2) = (i : Int) + 2 := by rw [IntKind.wrap_i64]; omega
   have hnn2 : (0 : Int) ≤ (i : Int) + 2 := by omega
   have htn2 : ((i : Int) + 2).toNat = i + 2 := by omega
   have hq3 : (i : Int) + 3 < (N : Int) := by omega
   have hr3 : i + 3 < N := by omega
   have hwi3 : IntKind.i64.wrap ((i : Int) + 3) = (i : Int) + 3 := by rw [IntKind.wrap_i64]; omega
   have hnn3 : (0 : Int) ≤ (i : Int) + 3 := by omega
   have htn3 : ((i : Int) + 3).toNat = i + 3 := by omega
   have hq4 : (i : Int) + 4 < (N : Int) := by omega
   have hr4 : i + 4 < N := by omega
   have hwi4 : IntKind.i64.wrap ((i : Int) + 4) = (i : Int) + 4 := by rw [IntKind.wrap_i64]; omega
   have hnn4 : (0 : Int) ≤ (i : Int) + 4 := by omega
   have htn4 : ((i : Int) + 4).toNat = i + 4 := by omega
   have hcc := HC.out
   have x0 : w.cell? ⟨b1, o1 + i, none⟩ = some (.int .i64 d.Id) := by
    have h8 : (((l.length : Int) :: flJob l).map (Value.int .i64))[i]? = some (.int .i64 d.Id) := by
     rw [List.getElem?_map, show i = (k * 5) + 1 by omega, List.getElem?_cons_succ]
     have := flat_get DJob.ints (n := 5) (fun _ => rfl) l k 0 d HD.out dC
     rw [show (flJob l)[k * 5]? = (DJob.ints d)[0]? from this]
     rfl
    exact hcc (i) _ h8
   have x1 : w.cell? ⟨b1, o1 + (i + 1), none⟩ = some (.int .i64 d.Due) := by
    have h8 : (((l.length : Int) :: flJob l).map (Value.int .i64))[i + 1]? = some (.int .i64 d.Due) := by
     rw [List.getElem?_map, show i + 1 = (k * 5 + 1) + 1 by omega, List.getElem?_cons_succ]
     have := flat_get DJob.ints (n := 5) (fun _ => rfl) l k 1 d HD.out dC
     rw [show (flJob l)[k * 5 + 1]? = (DJob.ints d)[1]? from this]
     rfl
    exact hcc (i + 1) _ h8
   have x2 : w.cell? ⟨b1, o1 + (i + 2), none⟩ = some (.int .i64 d.Key) := by
    have h8 : (((l.length : Int) :: flJob l).map (Value.int .i64))[i + 2]? = some (.int .i64 d.Key) := by
     rw [List.getElem?_map, show i + 2 = (k * 5 + 2) + 1 by omega, List.getElem?_cons_succ]
     have := flat_get DJob.ints (n := 5) (fun _ => rfl) l k 2 d HD.out dC
     rw [show (flJob l)[k * 5 + 2]? = (DJob.ints d)[2]? from this]
     rfl
    exact hcc (i + 2) _ h8
   have x3 : w.cell? ⟨b1, o1 + (i + 3), none⟩ = some (.int .i64 d.Value) := by
    have h8 : (((l.length : Int) :: flJob l).map (Value.int .i64))[i + 3]? = some (.int .i64 d.Value) := by
     rw [List.getElem?_map, show i + 3 = (k * 5 + 3) + 1 by omega, List.getElem?_cons_succ]
     have := flat_get DJob.ints (n := 5) (fun _ => rfl) l k 3 d HD.out dC
     rw [show (flJob l)[k * 5 + 3]? = (DJob.ints d)[3]? from this]
     rfl
    exact hcc (i + 3) _ h8
   have x4 : w.cell? ⟨b1, o1 + (i + 4), none⟩ = some (.int .i64 d.Fired) := by
    have h8 : (((l.length : Int) :: flJob l).map (Value.int .i64))[i + 4]? = some (.int .i64 d.Fired) := by
     rw [List.getElem?_map, show i + 4 = (k * 5 + 4) + 1 by omega, List.getElem?_cons_succ]
     have := flat_get DJob.ints (n := 5) (fun _ => rfl) l k 4 d HD.out dC
     rw [show (flJob l)[k * 5 + 4]? = (DJob.ints d)[4]? from this]
     rfl
    exact hcc (i + 4) _ h8
   have HI := Lib.hid hi'
   have hlk : (flJob (l.take k)).length = k * 5 := by rw [length_flJob, List.length_take]; congr 1; omega
   have d0 := he.cell x0
   have d1 := he.cell x1
   have d2 := he.cell x2
   have d3 := he.cell x3
   have d4 := he.cell x4
   clear hd hown hcc hi' hnk
   go_wp2_with fail
   go_region_held3 (fun w' => w'.cell? ⟨b1, o1 + i, none⟩ = some (.int .i64 d.Id) ∧ w'.cell? ⟨b1, o1 + (i + 1), none⟩ = some (.int .i64 d.Due) ∧ w'.cell? ⟨b1, o1 + (i + 2), none⟩ = some (.int .i64 d.Key) ∧ w'.cell? ⟨b1, o1 + (i + 3), none⟩ = some (.int .i64 d.Value) ∧ w'.cell? ⟨b1, o1 + (i + 4), none⟩ = some (.int .i64 d.Fired)) (first | (refine ⟨Ext.cell (w := w) ?_ x0, Ext.cell (w := w) ?_ x1, Ext.cell (w := w) ?_ x2, Ext.cell (w := w) ?_ x3, Ext.cell (w := w) ?_ x4⟩ <;> (exact xT); done)) (first | (refine step_append_own rfl (.tmp 23) (.tmp 49) 59 rfl 142 i0 _ 5 40 Tryz.underlying59 hi hz0 hz1 hz2 rfl dC w.heap.size (.slice la ln lc) _ rfl (Own.ext HO.out xT) ⟨wr.heap.size, 0, none⟩ 1 1 ([d.Id, d.Due, d.Key, d.Value, d.Fired].map (.int .i64)) rfl (by simp) (fun j u hu => by rw [add_lit0, Nat.zero_add, ((Blk.new wr _ _).drew).cell]; simpa using hu) (ints_oneCell _ _) oM 1000 (by simp [hlk]; omega) (by unfold maxLen; omega) oM (by simp; omega) ?_; intro v3 wa hown1 hga; have hxa : Ext w wa := Ext.own (v := .slice la ln lc) (he.trans xT) (Own.ext HO.out xT) (Nat.le_refl _) hga))
   all_goals
    have hown3 : OwnI w.heap.size 142 5 wa v3 (flJob (l.take k) ++ [d.Id, d.Due, d.Key, d.Value, d.Fired]) := by simpa [OwnI] using hown1
    go_wp2_with fail
    go_roundw
    case rel => exact ⟨k + 1, by omega, by rw [HI.out]; go_num, hxa, by rw [take_snoc HD.out, flJob_snoc]; exact hown3⟩
    case measure => simp [intOf]; omega
  obtain rfl : k = l.length := by omega
  rw [List.take_length] at hown
  obtain ⟨_, _, e9, _⟩ := hown.ints.recs (f := DJob.ints) (fun _ => rfl) dC
  injection e9 with e1 e2 e3
  subst e1; subst e2; subst e3
  have hNI : ¬ ((1 + 5 * l.length : Nat) : Int) < (N : Int) := by have := HN.out; omega
  have hNI' : ¬ (1 + 5 * l.length : Nat) < N := by have := HN.out; omega
  obtain ⟨i, hi'⟩ : ∃ i : Nat, i = 1 + 5 * l.length := ⟨_, rfl⟩
  rw [← hi'] at hNI hNI' ⊢
  have d00 := he.cell x00
  have HO := Lib.hid hown
  clear hi' hown
  cases hok : jobsOk l
  all_goals
   have HK := Lib.hid hok
   clear hok
   go_wp2_with (first | (go_at_call 124; refine (sJobsOk_c _ _ _ (OwnI.ints HO.out)).mono ?_; rintro e w3 ⟨rfl, hx3⟩; rw [HK.out]))
   go_ret2
  ·
   refine ⟨_, rfl, ?_, _, _, _, by rw [HK.out]; rfl, fun h => by rw [HK.out] at h; cases h⟩
   exact xT
  refine ⟨_, rfl, ?_, _, _, _, by rw [HK.out]; rfl, fun _ => OwnI.ext HO.out hx3⟩
  exact he.trans hx3
end Go.Proofs.YtcnioiieiebodaaGreat
namespace Go.G8
open Go.RowKit Go.Proofs.YtcnioiieiebodaaGreat
def leaseIf (l : DLease) : DLease := if leaseOk l then l else ⟨0, 0, 0⟩
end Go.G8
namespace Go.Proofs.YtcnioiieiebodaaGreat
open Go.RowKit Go.G8
theorem sRowLease_c (w : World) (v : Value) (x y z : Int) (h : Ints 1 w v [x, y, z]) :
  Calls Tryz.prog 254 #[v] w (RetV w (.tuple #[.agg #[.int .i64 (leaseIf ⟨x, y, z⟩).Holder, .int .i64 (leaseIf ⟨x, y, z⟩).Epoch, .int .i64 (leaseIf ⟨x, y, z⟩).Until], .bool (leaseOk ⟨x, y, z⟩)])) := by
 obtain ⟨a, c, rfl, hcap, hm, hat⟩ := h.one
 obtain ⟨_, b1, q1, r0, rfl, _, c0⟩ := hat 0 (by simp)
 obtain ⟨_, b1', q1', r1, r2, _, c1⟩ := hat 1 (by simp)
 injection r2 with r2; injection r2 with r2 r3; subst r2; subst r3
 obtain ⟨_, b1', q1', r4, r5, _, c2⟩ := hat 2 (by simp)
 injection r5 with r5; injection r5 with r5 r6; subst r5; subst r6
 simp only [List.getElem?_cons_zero, List.getElem?_cons_succ, Option.some.injEq] at r0 r1 r4
 subst r0; subst r1; subst r4
 simp only [Nat.add_zero] at c0
 simp only [List.length_cons, List.length_nil, Nat.zero_add, Nat.reduceAdd] at hcap ⊢
 clear hat h
 have hx0 : Ext w (w.alloc (.cells #[.int .i64 0, .int .i64 0, .int .i64 0] 61)) := (Ext.refl _).alloc _
 have R0 : Blk (w.alloc (.cells #[.int .i64 0, .int .i64 0, .int .i64 0] 61)) w.heap.size 61 #[.int .i64 0, .int .i64 0, .int .i64 0] := Blk.new _ _ _
 go_enter Tryz.func254, Tryz.ntmps254
 go_wp2_with fail
 go_region_held3 (fun w' => w'.cell? ⟨b1, q1, none⟩ = some (.int .i64 x) ∧ w'.cell? ⟨b1, q1 + 1, none⟩ = some (.int .i64 y) ∧ w'.cell? ⟨b1, q1 + 2, none⟩ = some (.int .i64 z)) (first | (refine ⟨Ext.cell (w := w) ?_ c0, Ext.cell (w := w) ?_ c1, Ext.cell (w := w) ?_ c2⟩ <;> (exact xT); done)) (fail)
 all_goals
  go_wp2_with fail
  refine (sLeaseOk_c _ x y z).mono ?_
  rintro e w8 ⟨rfl, hx8⟩
  have B8 : Blk w8 (w.heap.size + 1) 61 _ := Blk.ext (by exact blkT) hx8
  (try simp only [List.setIfInBounds_toArray, List.set_cons_zero, List.set_cons_succ] at B8)
  have X8 : Ext (w.alloc (.cells #[.int .i64 0, .int .i64 0, .int .i64 0] 61)) w8 := Ext.trans xT hx8
  have KR8 := R0.ext X8
  obtain ⟨CR8, FR8, LR8⟩ := KR8.cfl
  have CB8 := B8.cell; have LB8 := B8.lt
  cases hok : leaseOk ⟨x, y, z⟩
  ·
   have e9 : leaseIf ⟨x, y, z⟩ = ⟨0, 0, 0⟩ := by simp [leaseIf, hok]
   have HE := Lib.hid e9; have HK := Lib.hid hok
   clear e9 hok
   go_wp2_with fail
   refine bodyPost_ret (by simp [results, Tryz.results254, go_sem, CR8, FR8, LR8, LB8]; try rfl) rfl ?_
   refine ⟨by rw [HE.out, HK.out], ?_⟩
   (repeat (refine Ext.setCell ?_ (Nat.le_refl _) _)); exact hx0.trans X8
  have e9 : leaseIf ⟨x, y, z⟩ = ⟨x, y, z⟩ := by simp [leaseIf, hok]
  have HE := Lib.hid e9; have HK := Lib.hid hok
  clear e9 hok
  go_wp2_with fail
  refine bodyPost_ret (by simp [results, Tryz.results254, go_sem, CR8, FR8, LR8, LB8]; try rfl) rfl ?_
  refine ⟨by rw [HE.out, HK.out], ?_⟩
  (repeat (refine Ext.setCell ?_ (Nat.le_refl _) _)); exact hx0.trans X8
theorem sNumbersState_c (w : World) (v : Value) (L : List Int) (hv : Ints 1 w v L) (hl : L.length ≤ 100000) :
  Calls Tryz.prog 247 #[v] w (Ret w fun r w' => (∃ s, parsed L s ∧ ∃ u, r = .tuple #[u, .bool true] ∧ IsState w.heap.size w' u s) ∨ ((∀ s, ¬ parsed L s) ∧ r = .tuple #[.agg #[.int .i64 0, .int .i64 0, .slice none 0 0, .slice none 0 0, .int .i64 0, .int .i64 0, .int .i64 0], .bool false])) := by
 obtain ⟨a, c, rfl, hcap, hm, hat⟩ := hv.one
 unfold maxLen at hm
 have E1 : Ext w (w.alloc (.cells #[.int .i64 0, .int .i64 0, .slice none 0 0, .slice none 0 0, .int .i64 0, .int .i64 0, .int .i64 0] 63)) := (Ext.refl _).alloc _
 have KR1 : Blk (w.alloc (.cells #[.int .i64 0, .int .i64 0, .slice none 0 0, .slice none 0 0, .int .i64 0, .int .i64 0, .int .i64 0] 63)) w.heap.size 63 #[.int .i64 0, .int .i64 0, .slice none 0 0, .slice none 0 0, .int .i64 0, .int .i64 0, .int .i64 0] := Blk.new _ _ _
 obtain ⟨N, hN⟩ : ∃ N, N = L.length := ⟨_, rfl⟩
 rw [← hN] at hcap hl hat ⊢
 have HV := Lib.hid hv
 rw [← hN] at hv
 have HN := Lib.hid hN
 clear hN
 by_cases hA1 : (N : Int) < 7
 ·
  have HA := Lib.hid hA1
  clear hat
  go_enter Tryz.func247, Tryz.ntmps247
  obtain ⟨CR1, FR1, LR1⟩ := KR1.cfl
  go_wp2_with fail
  refine bodyPost_ret (by simp [results, Tryz.results247, go_sem, CR1, FR1, LR1]; try rfl) rfl ?_
  refine ⟨_, rfl, ?_, .inr ⟨fun s h => ?_, rfl⟩⟩
  ·
   (repeat (refine Ext.setCell ?_ (Nat.le_refl _) _)); exact E1
  obtain ⟨g1, g2, g3, g4, g5, g6⟩ := parsed_at h
  have g7 := stateNums_bound h.1
  rw [h.2] at g7
  have := HN.out; have := HA.out; omega
 by_cases hA2 : (67 : Int) < (N : Int)
 ·
  have HA := Lib.hid hA2
  have hA3 : decide ((N : Int) < 7) = false := by simp; omega
  clear hat
  go_enter Tryz.func247, Tryz.ntmps247
  obtain ⟨CR1, FR1, LR1⟩ := KR1.cfl
  go_wp2_with fail
  refine bodyPost_ret (by simp [results, Tryz.results247, go_sem, CR1, FR1, LR1]; try rfl) rfl ?_
  refine ⟨_, rfl, ?_, .inr ⟨fun s h => ?_, rfl⟩⟩
  ·
   (repeat (refine Ext.setCell ?_ (Nat.le_refl _) _)); exact E1
  obtain ⟨g1, g2, g3, g4, g5, g6⟩ := parsed_at h
  have g7 := stateNums_bound h.1
  rw [h.2] at g7
  have := HN.out; have := HA.out; omega
 have hN7 : 7 ≤ N := by omega
 obtain ⟨x2, b1, q1, hx2, rfl, hb1, c2⟩ := hat 2 oM
 obtain ⟨x0, b1', q1', hx0, r2, _, c0⟩ := hat 0 oM
 injection r2 with r2; injection r2 with r2 r3; subst r2; subst r3
 obtain ⟨x1, b1', q1', hx1, r2, _, c1⟩ := hat 1 oM
 injection r2 with r2; injection r2 with r2 r3; subst r2; subst r3
 simp only [Nat.add_zero] at c0
 have HAT := Lib.hid hat
 have H0 := Lib.hid hx0; have H1 := Lib.hid hx1; have H2 := Lib.hid hx2
 clear hat hx0 hx1 hx2
 have k2 : (w.alloc (.cells #[.int .i64 0, .int .i64 0, .slice none 0 0, .slice none 0 0, .int .i64 0, .int .i64 0, .int .i64 0] 63)).cell? ⟨b1, q1 + 2, none⟩ = some (.int .i64 x2) := E1.cell c2
 go_enter Tryz.func247, Tryz.ntmps247
 go_wp2_with fail
 refine (l1In_c _ x2 0 10).mono ?_
 rintro e w' ⟨rfl, rfl⟩
 cases hi2 : inb x2 0 10
 ·
  have HI := Lib.hid hi2
  clear hi2
  obtain ⟨CR1, FR1, LR1⟩ := KR1.cfl
  go_wp2_with fail
  refine bodyPost_ret (by simp [results, Tryz.results247, go_sem, CR1, FR1, LR1]; try rfl) rfl ?_
  refine ⟨_, rfl, ?_, .inr ⟨fun s h => ?_, rfl⟩⟩
  ·
   (repeat (refine Ext.setCell ?_ (Nat.le_refl _) _)); exact E1
  obtain ⟨g1, g2, g3, g4, g5, g6⟩ := parsed_at h
  have g7 := stateNums_bound h.1
  rw [h.2] at g7
  have h8 := g2.1; rw [H2.out] at h8; have h8 := Option.some.inj h8; have h9 := g2.2.1; have h7 := HI.out; rw [h8, inb_of oM oM] at h7; exact Bool.noConfusion h7
 obtain ⟨h20, h21⟩ := inb_true.1 hi2
 obtain ⟨P, rfl⟩ := Int.eq_ofNat_of_zero_le h20
 obtain ⟨m, hm'⟩ : ∃ m : Nat, m = 3 + 2 * P := ⟨_, rfl⟩
 have hmI : 3 + 2 * (P : Int) = (m : Int) := by omega
 have hml : m ≤ 100 := by omega
 have hP10 : P ≤ 10 := by omega
 have HM := Lib.hid hm'
 clear hi2 h20 hm'
 by_cases hmn : (m : Int) < (N : Int)
 rotate_left
 ·
  have HMN := Lib.hid hmn
  clear hmn
  have hmn' : (N : Int) ≤ (m : Int) := by have := HMN.out; omega
  obtain ⟨CR1, FR1, LR1⟩ := KR1.cfl
  go_wp2_with fail
  refine bodyPost_ret (by simp [results, Tryz.results247, go_sem, CR1, FR1, LR1]; try rfl) rfl ?_
  refine ⟨_, rfl, ?_, .inr ⟨fun s h => ?_, rfl⟩⟩
  ·
   (repeat (refine Ext.setCell ?_ (Nat.le_refl _) _)); exact E1
  obtain ⟨g1, g2, g3, g4, g5, g6⟩ := parsed_at h
  have g7 := stateNums_bound h.1
  rw [h.2] at g7
  have h8 := g2.1; rw [H2.out] at h8; have h8 := Option.some.inj h8; have := HM.out; have := HMN.out; have := HN.out; have := okJ_len g3; omega
 have hmn2 : m < N := by omega
 obtain ⟨y, b1', q1', hy, r2, _, cm⟩ := HAT.out m hmn2
 injection r2 with r2; injection r2 with r2 r3; subst r2; subst r3
 have km : (w.alloc (.cells #[.int .i64 0, .int .i64 0, .slice none 0 0, .slice none 0 0, .int .i64 0, .int .i64 0, .int .i64 0] 63)).cell? ⟨b1, q1 + m, none⟩ = some (.int .i64 y) := E1.cell cm
 have HY := Lib.hid hy
 clear hy
 go_wp2_with fail
 refine (l1In_c _ y 0 8).mono ?_
 rintro e w' ⟨rfl, rfl⟩
 cases hiy : inb y 0 8
 ·
  have HI := Lib.hid hiy
  clear hiy
  obtain ⟨CR1, FR1, LR1⟩ := KR1.cfl
  go_wp2_with fail
  refine bodyPost_ret (by simp [results, Tryz.results247, go_sem, CR1, FR1, LR1]; try rfl) rfl ?_
  refine ⟨_, rfl, ?_, .inr ⟨fun s h => ?_, rfl⟩⟩
  ·
   (repeat (refine Ext.setCell ?_ (Nat.le_refl _) _)); exact E1
  obtain ⟨g1, g2, g3, g4, g5, g6⟩ := parsed_at h
  have g7 := stateNums_bound h.1
  rw [h.2] at g7
  have h8 := g2.1; rw [H2.out] at h8; have h8 := Option.some.inj h8; have h10 := g3.1; rw [show 3 + 2 * s.Pairs.length = m by have := HM.out; omega, HY.out] at h10; have h10 := Option.some.inj h10; have h9 := g3.2.1; have h7 := HI.out; rw [h10, inb_of oM oM] at h7; exact Bool.noConfusion h7
 obtain ⟨hy0, hy1⟩ := inb_true.1 hiy
 obtain ⟨J, rfl⟩ := Int.eq_ofNat_of_zero_le hy0
 obtain ⟨z, hz⟩ : ∃ z : Nat, z = m + 1 + 5 * J + 3 := ⟨_, rfl⟩
 obtain ⟨j5, hj5⟩ : ∃ j5 : Nat, j5 = 5 * J := ⟨_, rfl⟩
 have hj5I : 5 * (J : Int) = (j5 : Int) := by omega
 have hj5l : j5 ≤ 40 := by omega
 have hzI : (m : Int) + 1 + (j5 : Int) + 3 = (z : Int) := by omega
 have hzl : z ≤ 1000 := by omega
 have hJ8 : J ≤ 8 := by omega
 have HZ := Lib.hid hz; have HJ5 := Lib.hid hj5
 clear hiy hy0 hz hj5
 by_cases hzn : z = N
 rotate_left
 ·
  have HZN := Lib.hid hzn
  have hzb : ((z : Int) == (N : Int)) = false := by simp; omega
  have hzb3 : ((z : Int) != (N : Int)) = true := by simp; omega
  obtain ⟨CR1, FR1, LR1⟩ := KR1.cfl
  go_wp2_with fail
  refine bodyPost_ret (by simp [results, Tryz.results247, go_sem, CR1, FR1, LR1]; try rfl) rfl ?_
  refine ⟨_, rfl, ?_, .inr ⟨fun s h => ?_, rfl⟩⟩
  ·
   (repeat (refine Ext.setCell ?_ (Nat.le_refl _) _)); exact E1
  obtain ⟨g1, g2, g3, g4, g5, g6⟩ := parsed_at h
  have g7 := stateNums_bound h.1
  rw [h.2] at g7
  have h8 := g2.1; rw [H2.out] at h8; have h8 := Option.some.inj h8; have h10 := g3.1; rw [show 3 + 2 * s.Pairs.length = m by have := HM.out; omega, HY.out] at h10; have h10 := Option.some.inj h10; have := HZ.out; have := HZN.out; have := HN.out; have := HM.out; omega
 obtain ⟨ps, hok, hpl⟩ := okP_of (L := L) (p := 2) (n := P) H2.out hP10 (by have := HM.out; have := HN.out; omega)
 obtain ⟨js, hokj, hjl⟩ := okJ_of (L := L) (p := m) (n := J) HY.out hJ8 (by have := HZ.out; have := HN.out; omega)
 obtain ⟨q3, hq3⟩ : ∃ q3 : Nat, q3 = N - 3 := ⟨_, rfl⟩
 have hq3I : (N : Int) - 3 = (q3 : Int) := by omega
 have hmq : m ≤ q3 := by have := HZ.out; omega
 have hq3N : q3 ≤ N := by omega
 have hR1 : (L.take m).drop 2 = (ps.length : Int) :: flPair ps := by
  rw [List.drop_take, drop_at H2.out, hpl, show m - 2 = (2 * P) + 1 by have := HM.out; omega, List.take_succ_cons, ← hok.2.2, hpl]
 have hR2 : (L.take q3).drop m = (js.length : Int) :: flJob js := by
  rw [List.drop_take, drop_at HY.out, hjl, show q3 - m = (5 * J) + 1 by have := HZ.out; omega, List.take_succ_cons, ← hokj.2.2, hjl]
 have hdl : (L.drop q3).length = 3 := by rw [List.length_drop]; have := HN.out; omega
 obtain ⟨y0, y1, y2, hy⟩ : ∃ y0 y1 y2, L.drop q3 = [y0, y1, y2] := by
  match L.drop q3, hdl with
  | [y0, y1, y2], _ => exact ⟨y0, y1, y2, rfl⟩
 have hR3 : (L.take N).drop q3 = [y0, y1, y2] := by rw [HN.out, List.take_length, hy]
 have hnum : stateNums ⟨x0, x1, ps, js, ⟨y0, y1, y2⟩⟩ = L := parsed_of H0.out H1.out hok (by rw [show 3 + 2 * ps.length = m by have := HM.out; omega]; exact hokj) (by rw [← hy]; congr 1; have := HZ.out; have := HM.out; omega)
 have hv2 := HV.out
 rw [← HN.out] at hv2
 have HS1 := hv2.sliced (l := 2) (m := m) (by have := HM.out; omega) oM
 have HS2 := hv2.sliced (l := m) (m := q3) hmq hq3N
 have HS3 := hv2.sliced (l := q3) (m := N) hq3N (Nat.le_refl _)
 have hc2 : c ≠ 2 := by omega
 have hcm : c ≠ m := by omega
 have hcq : c ≠ q3 := by omega
 simp only [Go.sliced, if_neg hc2, if_neg hcm, if_neg hcq, Nat.mul_one, Option.map_some, add_lit0] at HS1 HS2 HS3
 rw [hR1] at HS1; rw [hR2] at HS2; rw [hR3] at HS3
 have hps : ps.length ≤ 10 := by omega
 have hjs : js.length ≤ 8 := by omega
 have hqm2 : (m : Int) ≤ (q3 : Int) := by omega
 have hqc : (q3 : Int) ≤ (c : Int) := by omega
 have hqN : (q3 : Int) ≤ (N : Int) := by omega
 have HS1 := Lib.hid HS1; have HS2 := Lib.hid HS2; have HS3 := Lib.hid HS3
 have HNUM := Lib.hid hnum
 clear hok hokj hpl hjl hq3 hR1 hR2 hR3 hy hdl hnum hv2 hv
 go_wp2_with fail
 refine (sRowPairs_c _ _ ps (HS1.out.ext E1) hps).mono ?_
 rintro e w2 ⟨_, rfl, hx2, pa, pn, pc, rfl, o2⟩
 have E2 := E1.trans hx2
 have KR2 := KR1.ext hx2
 go_wp2_with fail
 refine (sRowOrders_c _ _ js (HS2.out.ext E2) hjs).mono ?_
 rintro e w3 ⟨_, rfl, hx3, ja, jn, jc, rfl, o3⟩
 have E3 := E2.trans hx3
 have KR3 := KR2.ext hx3
 go_wp2_with fail
 refine (sRowLease_c _ _ y0 y1 y2 (HS3.out.ext E3)).mono ?_
 rintro e w4 ⟨rfl, hx4⟩
 have E4 := E3.trans hx4
 have KR4 := KR3.ext hx4
 obtain ⟨le, hle⟩ : ∃ le, le = leaseIf ⟨y0, y1, y2⟩ := ⟨_, rfl⟩
 rw [← hle]
 have HLE := Lib.hid hle
 clear hle k2 km
 go_wp2_with fail
 obtain ⟨W5, hW5⟩ : ∃ W5, W5 = w4.alloc (.cells #[.int .i64 le.Holder, .int .i64 le.Epoch, .int .i64 le.Until] 61) := ⟨_, rfl⟩
 have X5 : Ext w4 W5 := by rw [hW5]; exact (Ext.refl _).alloc _
 have B5 : Blk W5 w4.heap.size 61 #[.int .i64 le.Holder, .int .i64 le.Epoch, .int .i64 le.Until] := by rw [hW5]; exact Blk.new _ _ _
 have hs5 : W5.heap.size = w4.heap.size + 1 := by rw [hW5]; simp
 rw [← hW5]
 clear hW5
 have E5 := E4.trans X5
 have KR5 := KR4.ext X5
 have Y25 : Ext w2 W5 := (hx3.trans hx4).trans X5
 have Y35 : Ext w3 W5 := hx4.trans X5
 have d0 := E5.cell c0; have d1 := E5.cell c1
 have l0 : W5.cell? ⟨w4.heap.size, 0, none⟩ = some (.int .i64 le.Holder) := B5.cell 0
 have l1 : W5.cell? ⟨w4.heap.size, 1, none⟩ = some (.int .i64 le.Epoch) := B5.cell 1
 have l2 : W5.cell? ⟨w4.heap.size, 2, none⟩ = some (.int .i64 le.Until) := B5.cell 2
 have LB5 := B5.lt
 have LR5 := KR5.lt
 have h0N : (0 : Int) < (N : Int) := by omega
 have h1N : (1 : Int) < (N : Int) := by omega
 have h0N' : 0 < N := by omega
 have h1N' : 1 < N := by omega
 have HS5 := Lib.hid hs5
 clear hs5 HS1 HS2 HS3
 go_region_held3 (fun w' => w'.cell? ⟨b1, q1, none⟩ = some (.int .i64 x0) ∧ w'.cell? ⟨b1, q1 + 1, none⟩ = some (.int .i64 x1) ∧ w'.cell? ⟨w4.heap.size, 0, none⟩ = some (.int .i64 le.Holder) ∧ w'.cell? ⟨w4.heap.size, 1, none⟩ = some (.int .i64 le.Epoch) ∧ w'.cell? ⟨w4.heap.size, 2, none⟩ = some (.int .i64 le.Until)) (first | (refine ⟨Ext.cell (w := W5) ?_ d0, Ext.cell (w := W5) ?_ d1, Ext.cell (w := W5) ?_ l0, Ext.cell (w := W5) ?_ l1, Ext.cell (w := W5) ?_ l2⟩ <;> (exact xT); done)) (fail)
 all_goals
  have CR5 := KR5.cell; have FR5 := KR5.frozen
  cases hp : pairsOk ps
  ·
   have HP := Lib.hid hp
   clear hp
   go_wp2_with fail
   refine bodyPost_ret (by simp [results, Tryz.results247, go_sem, CR5, FR5, LR5]; try rfl) rfl ?_
   refine ⟨_, rfl, ?_, .inr ⟨fun s h => ?_, rfl⟩⟩
   ·
    exact xT
   obtain rfl := stateNums_inj (h.2.trans HNUM.out.symm)
   have := h.1
   simp [stateOk, HP.out] at this
  have o2' := o2 hp
  have HP := Lib.hid hp
  clear hp o2
  cases hj : jobsOk js
  ·
   have HJ := Lib.hid hj
   clear hj
   go_wp2_with fail
   refine bodyPost_ret (by simp [results, Tryz.results247, go_sem, CR5, FR5, LR5]; try rfl) rfl ?_
   refine ⟨_, rfl, ?_, .inr ⟨fun s h => ?_, rfl⟩⟩
   ·
    exact xT
   obtain rfl := stateNums_inj (h.2.trans HNUM.out.symm)
   have := h.1
   simp [stateOk, HJ.out] at this
  have o3' := o3 hj
  have HJ := Lib.hid hj
  clear hj o3
  cases hk : leaseOk ⟨y0, y1, y2⟩
  ·
   have HK := Lib.hid hk
   clear hk
   go_wp2_with fail
   refine bodyPost_ret (by simp [results, Tryz.results247, go_sem, CR5, FR5, LR5]; try rfl) rfl ?_
   refine ⟨_, rfl, ?_, .inr ⟨fun s h => ?_, rfl⟩⟩
   ·
    exact xT
   obtain rfl := stateNums_inj (h.2.trans HNUM.out.symm)
   have := h.1
   simp [stateOk, HK.out] at this
  obtain rfl : le = ⟨y0, y1, y2⟩ := by rw [HLE.out]; simp [leaseIf, hk]
  have HK := Lib.hid hk
  clear hk HLE
  go_wp2_with fail
  refine (sStateOk_c _ x0 x1 _ ps _ js y0 y1 y2 ((OwnI.ints o2').ext xT) ((OwnI.ints o3').ext xT)).mono ?_
  rintro e w8 ⟨rfl, hx8⟩
  have B8 : Blk w8 W5.heap.size 63 _ := Blk.ext (by exact blkT) hx8
  (try simp only [List.setIfInBounds_toArray, List.set_cons_zero, List.set_cons_succ] at B8)
  have X8 : Ext W5 w8 := Ext.trans xT hx8
  have E8 : Ext w w8 := E5.trans X8
  have KR8 := KR5.ext X8
  obtain ⟨CR8, FR8, LR8⟩ := KR8.cfl
  have CB8 := B8.cell; have LB8 := B8.lt
  have hne : w.heap.size ≠ W5.heap.size := by omega
  clear CR5 FR5 d0 d1 l0 l1 l2
  have hz1 : w.heap.size + 1 ≤ w2.heap.size := by have := hx2.size; simpa using this
  have hz2 := hx3.size
  cases hok : stateOk ⟨x0, x1, ps, js, ⟨y0, y1, y2⟩⟩
  ·
   have HOK := Lib.hid hok
   clear hok
   go_wp2_with fail
   refine bodyPost_ret (by simp [results, Tryz.results247, go_sem, CR8, FR8, LR8]; try rfl) rfl ?_
   refine ⟨_, rfl, ?_, .inr ⟨fun s h => ?_, rfl⟩⟩
   ·
    (repeat (refine Ext.setCell ?_ (Nat.le_refl _) _)); exact E8
   obtain rfl := stateNums_inj (h.2.trans HNUM.out.symm)
   have h9 := HOK.out
   rw [h.1] at h9
   exact Bool.noConfusion h9
  have HOK := Lib.hid hok
  clear hok
  go_wp2_with fail
  refine bodyPost_ret (by simp [results, Tryz.results247, go_sem, CR8, FR8, LR8, CB8, LB8]; try rfl) rfl ?_
  refine ⟨_, rfl, ?_, .inl ⟨_, ⟨HOK.out, HNUM.out⟩, _, rfl, _, _, rfl, OwnI.mono (B := w.heap.size + 1) (OwnI.keep (OwnI.mono (OwnI.ext o2' (Y25.trans X8)) (by simp)) chgT) oM, OwnI.mono (B := w.heap.size + 1) (OwnI.keep (OwnI.mono (OwnI.ext o3' (Y35.trans X8)) oM) chgT) oM⟩⟩
  (repeat (refine Ext.setCell ?_ (Nat.le_refl _) _)); exact E8
end Go.Proofs.YtcnioiieiebodaaGreat
namespace Go.G8
open Go.RowKit Go.Proofs.YtcnioiieiebodaaGreat
theorem shot_ends {s : DShot} (h : shotOk s = true) : (shotRows s).all endsOk = true := by
 rw [List.all_eq_true]
 intro r hr
 obtain ⟨i, hi⟩ := List.mem_iff_getElem?.1 hr
 have h1 := shotRows_ends h hi
 have h2 := (List.all_eq_true.1 (shotRows_parse h).1) r hr
 simp only [partOk, Bool.and_eq_true] at h2
 simp only [endsOk, Bool.and_eq_true, decide_eq_true_eq]
 exact ⟨h2.1, h1⟩
theorem ends_part {r : List Int} (h : endsOk r = true) : partOk r = true := by
 simp only [endsOk, Bool.and_eq_true, decide_eq_true_eq] at h
 simp only [partOk, Bool.and_eq_true, decide_eq_true_eq]
 exact ⟨h.1, by omega⟩
theorem ends_parts {l : List (List Int)} (h : l.all endsOk = true) : l.all partOk = true := by
 rw [List.all_eq_true] at h ⊢
 exact fun r hr => ends_part (h r hr)
end Go.G8
namespace Go.Proofs.YtcnioiieiebodaaGreat
open Go.RowKit Go.G8
theorem sRowsShot_k {w : World} {v : Value} {l : List (List Int)} (h : RdRows w v l) (hr : l.length ≤ 2000000) : Calls Tryz.prog 239 #[v] w (Ret w fun r w' => (∃ s, shotOk s = true ∧ shotRows s = l ∧ ∃ u, r = .tuple #[u, .bool true] ∧ IsShot w.heap.size w' u s) ∨ ((∀ s, shotOk s = true → shotRows s ≠ l) ∧ r = .tuple #[.agg #[.int .i64 0, .int .i64 0, .int .i64 0, .slice none 0 0, .slice none 0 0, .int .i64 0, .int .i64 0, .int .i64 0], .bool false])) := by
 obtain ⟨a, cap, rfl, hcap, hm, ha⟩ := Nest.rows h
 have HA := Lib.hid ha
 unfold maxLen at hm
 clear ha h
 obtain ⟨i0, hi, hz0, hz1, hz2⟩ := info_parts info_Int64
 obtain ⟨W1, hW1⟩ : ∃ W1, W1 = w.alloc (.cells #[.int .i64 0, .int .i64 0, .int .i64 0, .slice none 0 0, .slice none 0 0, .int .i64 0, .int .i64 0, .int .i64 0] 208) := ⟨_, rfl⟩
 have E1 : Ext w W1 := by rw [hW1]; exact (Ext.refl _).alloc _
 have R1 : Blk W1 w.heap.size 208 #[.int .i64 0, .int .i64 0, .int .i64 0, .slice none 0 0, .slice none 0 0, .int .i64 0, .int .i64 0, .int .i64 0] := by rw [hW1]; exact Blk.new _ _ _
 have E0 : Ext w (w.alloc (.cells #[.int .i64 0, .int .i64 0, .int .i64 0, .slice none 0 0, .slice none 0 0, .int .i64 0, .int .i64 0, .int .i64 0] 208)) := (Ext.refl _).alloc _
 have KR0 : Blk (w.alloc (.cells #[.int .i64 0, .int .i64 0, .int .i64 0, .slice none 0 0, .slice none 0 0, .int .i64 0, .int .i64 0, .int .i64 0] 208)) w.heap.size 208 #[.int .i64 0, .int .i64 0, .int .i64 0, .slice none 0 0, .slice none 0 0, .int .i64 0, .int .i64 0, .int .i64 0] := Blk.new _ _ _
 have hs1 : W1.heap.size = w.heap.size + 1 := by rw [hW1]; simp
 have HW1 := Lib.hid hW1
 clear hW1
 by_cases hl0 : (l.length : Int) < 1
 ·
  have HL0 := Lib.hid hl0
  go_enter Tryz.func239, Tryz.ntmps239
  obtain ⟨CR0, FR0, LR0⟩ := KR0.cfl
  go_wp2_with fail
  refine bodyPost_ret (by simp [results, Tryz.results239, go_sem, CR0, FR0, LR0]; try rfl) rfl ?_
  refine ⟨_, rfl, ?_, .inr ⟨fun s hs e => ?_, rfl⟩⟩
  ·
   (repeat (refine Ext.setCell ?_ (Nat.le_refl _) _)); exact E0
  have h1 := (shotRows_len hs).2.1; rw [e] at h1; have := HL0.out; omega
 by_cases hl4 : (4 : Int) < (l.length : Int)
 ·
  have HL4 := Lib.hid hl4
  go_enter Tryz.func239, Tryz.ntmps239
  obtain ⟨CR0, FR0, LR0⟩ := KR0.cfl
  go_wp2_with fail
  refine bodyPost_ret (by simp [results, Tryz.results239, go_sem, CR0, FR0, LR0]; try rfl) rfl ?_
  refine ⟨_, rfl, ?_, .inr ⟨fun s hs e => ?_, rfl⟩⟩
  ·
   (repeat (refine Ext.setCell ?_ (Nat.le_refl _) _)); exact E0
  have h1 := (shotRows_len hs).2.2; rw [e] at h1; have := HL4.out; omega
 have hlp : 0 < l.length := by omega
 have hl4n : l.length ≤ 4 := by omega
 clear KR0 E0
 go_enter Tryz.func239, Tryz.ntmps239
 go_wp2_with fail
 rw [← HW1.out]
 go_loopw [4, 5] (fun all i wr => ∃ k : Nat, k ≤ l.length ∧ i = .int .i64 k ∧ Ext W1 wr ∧ OwnI W1.heap.size 2 1 wr all ((l.take k).flatMap mid) ∧ Hid ((l.take k).all endsOk = true)) (fun _ i _ => l.length - (intOf i).toNat)
 case atStart => exact ⟨0, Nat.zero_le _, rfl, (Ext.refl _).alloc _, by show OwnI W1.heap.size 2 1 _ _ []; rw [← hs1]; exact Own.fresh W1 2 1, Lib.hid (by simp)⟩
 case round =>
  obtain ⟨k, hk, rfl, he, hown, hall⟩ := hrel
  obtain ⟨w2, hw2⟩ : ∃ w2, w2 = wr := ⟨_, rfl⟩
  subst hw2
  obtain ⟨la, ln, lc, rfl⟩ := hown.shape
  have hsz := he.size
  have E2 : Ext w w2 := E1.trans he
  have KR2 := R1.ext he
  by_cases hlt : k < l.length
  ·
   obtain ⟨r, b1, o1, sa, sn, sc, hr1, rfl, hb1, c0, hin⟩ := HA.out k hlt
   have d0 := E2.cell c0
   have HR := Lib.hid hr1; have HO := Lib.hid hown; have HIN := Lib.hid (hin.ext E2)
   have hml := mids_len (l.take k) (ends_parts hall.out)
   have hkl : (l.take k).length = k := by simp; omega
   rw [hkl] at hml
   have HML := Lib.hid hml
   clear hr1 c0 hown hin hml hkl
   go_wp2_with fail
   refine (l18Part_c _ _ r HIN.out).mono ?_
   rintro e w4 ⟨_, rfl, hx4, pa, pn, pc, rfl, ho⟩
   have KR4 := KR2.ext hx4
   cases hu : endsOk r
   ·
    have HU := Lib.hid hu
    clear ho hu
    obtain ⟨CR4, FR4, LR4⟩ := KR4.cfl
    go_wp2_with fail
    refine bodyPost_ret (by simp [results, Tryz.results239, go_sem, CR4, FR4, LR4]; try rfl) rfl ?_
    refine ⟨_, rfl, ?_, .inr ⟨fun s hs e => ?_, rfl⟩⟩
    ·
     (repeat (refine Ext.setCell ?_ (Nat.le_refl _) _)); exact E2.trans hx4
    have h1 := shot_ends hs; rw [e, all_noJ HR.out HU.out] at h1; exact Bool.noConfusion h1
   have ho := ho hu
   have HU := Lib.hid hu; have HS := Lib.hid ho
   have hml2 := mid_len r
   have hr48 : r.length ≤ 48 := by
    have h1 := ends_part hu
    simp only [partOk, Bool.and_eq_true] at h1
    exact (unsumOk_len h1.1).2
   have hl9 : ((l.take k).flatMap mid).length + (mid r).length ≤ 1000 := by have := HML.out; omega
   have HL9 := Lib.hid hl9
   clear hu ho hl9 hml2
   go_wp2_with (first | (at_builtin; refine wp_append rfl (.tmp 40) (.tmp 41) 79 rfl 2 i0 _ 1 8 Tryz.underlying79 hi hz0 hz1 hz2 rfl dC W1.heap.size _ _ rfl (Own.ext HO.out hx4) _ ((mid r).map (.int .i64)) rfl HS.out (ints_oneCell _ _) 1000000000 (by rw [List.length_map, List.length_map]; have := HL9.out; omega) (by unfold maxLen; omega) oM (by have := hx4.size; omega) W1 (he.trans hx4) (Nat.le_refl _) ?_; rotate_right; intro v5 w5 O5 X5 _))
   go_roundw
   case rel => exact ⟨k + 1, by omega, by go_num, X5, by rw [take_snoc HR.out, List.flatMap_append]; simpa [OwnI] using O5, Lib.hid (all_stepJ HR.out hall.out HU.out)⟩
   case measure => simp [intOf]; omega
  obtain rfl : k = l.length := by omega
  have hal := hall.out
  rw [List.take_length] at hal hown
  have HAL := Lib.hid hal
  have hnl := mids_len l (ends_parts hal)
  have hnl2 : (l.flatMap mid).length ≤ 100000 := by omega
  obtain ⟨r0, b0, q0, sa, sn, sc, hr0, rfl, hb0, c0, hin⟩ := HA.out 0 hlp
  simp only [Nat.add_zero] at c0
  have hr7 : 7 ≤ r0.length := by
   have h1 := ends_part ((List.all_eq_true.1 hal) r0 (List.mem_of_getElem? hr0))
   simp only [partOk, Bool.and_eq_true, decide_eq_true_eq] at h1
   exact h1.2
  obtain ⟨_, _, e9, hc9, hm9, hat⟩ := hin.one
  injection e9 with e1 e2 e3; subst e1; subst e3
  obtain ⟨x, sb, so, hx0, rfl, _, cx⟩ := hat 0 oM
  simp only [Nat.add_zero] at cx
  have hsn : 0 < sn := by omega
  have HR0 := Lib.hid hr0; have HX0 := Lib.hid hx0
  clear e2 hat hr0 hx0 hr7 hin hc9 hal hnl hall
  go_wp2_with fail
  refine (sNumbersState_c _ _ _ (OwnI.ints hown) hnl2).mono ?_
  rintro e w3 ⟨_, rfl, hx3, hN⟩
  have KR3 := KR2.ext hx3
  have E3 : Ext w w3 := E2.trans hx3
  have hz3 := hx3.size
  rcases hN with ⟨t, ht, u, rfl, t2, t3, rfl, p2, p3⟩ | ⟨hno, rfl⟩
  rotate_left
  ·
   have HNO := Lib.hid hno
   clear hno
   go_wp2_with fail
   obtain ⟨W5, hW5⟩ : ∃ W5, W5 = w3.alloc (.cells #[.int .i64 0, .int .i64 0, .slice none 0 0, .slice none 0 0, .int .i64 0, .int .i64 0, .int .i64 0] 63) := ⟨_, rfl⟩
   rw [← hW5]
   have X5 : Ext w3 W5 := by rw [hW5]; exact (Ext.refl _).alloc _
   have B5 : Blk W5 w3.heap.size 63 #[.int .i64 0, .int .i64 0, .slice none 0 0, .slice none 0 0, .int .i64 0, .int .i64 0, .int .i64 0] := by rw [hW5]; exact Blk.new _ _ _
   have hs5 : W5.heap.size = w3.heap.size + 1 := by rw [hW5]; simp
   clear hW5
   have E5 : Ext w W5 := E3.trans X5
   have KR5 := KR3.ext X5
   have d0 := E5.cell c0; have dx := E5.cell cx
   have m0 : W5.cell? ⟨w3.heap.size, 0, none⟩ = some (.int .i64 0) := B5.cell 0
   have m1 : W5.cell? ⟨w3.heap.size, 1, none⟩ = some (.int .i64 0) := B5.cell 1
   have m2 : W5.cell? ⟨w3.heap.size, 2, none⟩ = some (.slice none 0 0) := B5.cell 2
   have m3 : W5.cell? ⟨w3.heap.size, 3, none⟩ = some (.slice none 0 0) := B5.cell 3
   have m4 : W5.cell? ⟨w3.heap.size, 4, none⟩ = some (.int .i64 0) := B5.cell 4
   have m5 : W5.cell? ⟨w3.heap.size, 5, none⟩ = some (.int .i64 0) := B5.cell 5
   have m6 : W5.cell? ⟨w3.heap.size, 6, none⟩ = some (.int .i64 0) := B5.cell 6
   have LB5 := B5.lt
   have HS5 := Lib.hid hs5
   clear hs5
   go_region_held3 (fun w' => w'.cell? ⟨b0, q0, none⟩ = some (.slice (some ⟨sb, so, none⟩) sn sc) ∧ w'.cell? ⟨sb, so, none⟩ = some (.int .i64 x) ∧ w'.cell? ⟨w3.heap.size, 0, none⟩ = some (.int .i64 0) ∧ w'.cell? ⟨w3.heap.size, 1, none⟩ = some (.int .i64 0) ∧ w'.cell? ⟨w3.heap.size, 2, none⟩ = some (.slice none 0 0) ∧ w'.cell? ⟨w3.heap.size, 3, none⟩ = some (.slice none 0 0) ∧ w'.cell? ⟨w3.heap.size, 4, none⟩ = some (.int .i64 0) ∧ w'.cell? ⟨w3.heap.size, 5, none⟩ = some (.int .i64 0) ∧ w'.cell? ⟨w3.heap.size, 6, none⟩ = some (.int .i64 0)) (first | (refine ⟨Ext.cell (w := W5) ?_ d0, Ext.cell (w := W5) ?_ dx, Ext.cell (w := W5) ?_ m0, Ext.cell (w := W5) ?_ m1, Ext.cell (w := W5) ?_ m2, Ext.cell (w := W5) ?_ m3, Ext.cell (w := W5) ?_ m4, Ext.cell (w := W5) ?_ m5, Ext.cell (w := W5) ?_ m6⟩ <;> (exact xT); done)) (fail)
   all_goals
    go_wp2_with fail
    have hrs : ∀ W, Ext w3 W → RdShot W (.agg #[.int .i64 x, .int .i64 0, .int .i64 0, .slice none 0 0, .slice none 0 0, .int .i64 0, .int .i64 0, .int .i64 0]) ⟨x, ⟨0, 0, [], [], ⟨0, 0, 0⟩⟩⟩ := fun W hW => ⟨_, _, rfl, Ints.nil 2 W, Ints.nil 5 W⟩
    refine (sShotRows_k (hrs _ xT)).mono ?_
    rintro e w6 ⟨_, rfl, hx6, FF, g6⟩
    have X6 : Ext W5 w6 := Ext.trans xT hx6
    have E6 : Ext w w6 := E5.trans X6
    have KR6 := KR5.ext X6
    have hz6 := X6.size
    have hz5 := X5.size
    have hne : w.heap.size ≠ W5.heap.size := by omega
    obtain ⟨ga, gn, gc, rfl⟩ := g6.rd.shape
    obtain ⟨CR6, FR6, LR6⟩ := KR6.cfl
    go_wp2_with fail
    refine bodyPost_ret (by simp [results, Tryz.results239, go_sem, CR6, FR6, LR6]; try rfl) rfl ?_
    refine ⟨_, rfl, ?_, .inr ⟨fun s hs e => ?_, rfl⟩⟩
    ·
     (repeat (refine Ext.setCell ?_ (Nat.le_refl _) _)); exact E6
    exact HNO.out s.State ⟨(shotOk_parts hs).2.2.1, by rw [← e, (shotRows_parse hs).2]⟩
  obtain ⟨a2, n2, k2, rfl⟩ := p2.shape
  obtain ⟨a3, n3, k3, rfl⟩ := p3.shape
  have HT := Lib.hid ht
  clear ht
  go_wp2_with fail
  obtain ⟨W5, hW5⟩ : ∃ W5, W5 = w3.alloc (.cells #[.int .i64 t.Index, .int .i64 t.Time, .slice a2 n2 k2, .slice a3 n3 k3, .int .i64 t.Lease.Holder, .int .i64 t.Lease.Epoch, .int .i64 t.Lease.Until] 63) := ⟨_, rfl⟩
  rw [← hW5]
  have X5 : Ext w3 W5 := by rw [hW5]; exact (Ext.refl _).alloc _
  have B5 : Blk W5 w3.heap.size 63 #[.int .i64 t.Index, .int .i64 t.Time, .slice a2 n2 k2, .slice a3 n3 k3, .int .i64 t.Lease.Holder, .int .i64 t.Lease.Epoch, .int .i64 t.Lease.Until] := by rw [hW5]; exact Blk.new _ _ _
  have hs5 : W5.heap.size = w3.heap.size + 1 := by rw [hW5]; simp
  clear hW5
  have E5 : Ext w W5 := E3.trans X5
  have KR5 := KR3.ext X5
  have d0 := E5.cell c0; have dx := E5.cell cx
  have m0 : W5.cell? ⟨w3.heap.size, 0, none⟩ = some (.int .i64 t.Index) := B5.cell 0
  have m1 : W5.cell? ⟨w3.heap.size, 1, none⟩ = some (.int .i64 t.Time) := B5.cell 1
  have m2 : W5.cell? ⟨w3.heap.size, 2, none⟩ = some (.slice a2 n2 k2) := B5.cell 2
  have m3 : W5.cell? ⟨w3.heap.size, 3, none⟩ = some (.slice a3 n3 k3) := B5.cell 3
  have m4 : W5.cell? ⟨w3.heap.size, 4, none⟩ = some (.int .i64 t.Lease.Holder) := B5.cell 4
  have m5 : W5.cell? ⟨w3.heap.size, 5, none⟩ = some (.int .i64 t.Lease.Epoch) := B5.cell 5
  have m6 : W5.cell? ⟨w3.heap.size, 6, none⟩ = some (.int .i64 t.Lease.Until) := B5.cell 6
  have LB5 := B5.lt
  have HS5 := Lib.hid hs5
  clear hs5
  go_region_held3 (fun w' => w'.cell? ⟨b0, q0, none⟩ = some (.slice (some ⟨sb, so, none⟩) sn sc) ∧ w'.cell? ⟨sb, so, none⟩ = some (.int .i64 x) ∧ w'.cell? ⟨w3.heap.size, 0, none⟩ = some (.int .i64 t.Index) ∧ w'.cell? ⟨w3.heap.size, 1, none⟩ = some (.int .i64 t.Time) ∧ w'.cell? ⟨w3.heap.size, 2, none⟩ = some (.slice a2 n2 k2) ∧ w'.cell? ⟨w3.heap.size, 3, none⟩ = some (.slice a3 n3 k3) ∧ w'.cell? ⟨w3.heap.size, 4, none⟩ = some (.int .i64 t.Lease.Holder) ∧ w'.cell? ⟨w3.heap.size, 5, none⟩ = some (.int .i64 t.Lease.Epoch) ∧ w'.cell? ⟨w3.heap.size, 6, none⟩ = some (.int .i64 t.Lease.Until)) (first | (refine ⟨Ext.cell (w := W5) ?_ d0, Ext.cell (w := W5) ?_ dx, Ext.cell (w := W5) ?_ m0, Ext.cell (w := W5) ?_ m1, Ext.cell (w := W5) ?_ m2, Ext.cell (w := W5) ?_ m3, Ext.cell (w := W5) ?_ m4, Ext.cell (w := W5) ?_ m5, Ext.cell (w := W5) ?_ m6⟩ <;> (exact xT); done)) (fail)
  all_goals
   go_wp2_with fail
   have hrs : ∀ W, Ext w3 W → RdShot W (.agg #[.int .i64 x, .int .i64 t.Index, .int .i64 t.Time, .slice a2 n2 k2, .slice a3 n3 k3, .int .i64 t.Lease.Holder, .int .i64 t.Lease.Epoch, .int .i64 t.Lease.Until]) ⟨x, t⟩ := fun W hW => ⟨_, _, rfl, (OwnI.ints p2).ext hW, (OwnI.ints p3).ext hW⟩
   refine (sShotRows_k (hrs _ xT)).mono ?_
   rintro e w6 ⟨_, rfl, hx6, FF, g6⟩
   have X6 : Ext W5 w6 := Ext.trans xT hx6
   have E6 : Ext w w6 := E5.trans X6
   have KR6 := KR5.ext X6
   have hz6 := X6.size
   have hz5 := X5.size
   have hne : w.heap.size ≠ W5.heap.size := by omega
   have B6 : Blk w6 W5.heap.size 208 _ := Blk.ext (by exact blkT) hx6
   (try simp only [List.setIfInBounds_toArray, List.set_cons_zero, List.set_cons_succ] at B6)
   clear d0 dx m0 m1 m2 m3 m4 m5 m6 hrs
   have P2 : OwnI W1.heap.size 157 2 w6 (.slice a2 n2 k2) (flPair t.Pairs) := OwnI.mono (OwnI.ext p2 (X5.trans X6)) oM
   have P3 : OwnI W1.heap.size 142 5 w6 (.slice a3 n3 k3) (flJob t.Jobs) := OwnI.mono (OwnI.ext p3 (X5.trans X6)) oM
   obtain ⟨S, hS⟩ : ∃ S : DShot, S = ⟨x, t⟩ := ⟨_, rfl⟩
   rw [← hS] at g6
   have HS := Lib.hid hS
   clear hS
   obtain ⟨ga, gc, rfl, hgc, hgm, hga⟩ := Nest.rows g6.rd
   unfold maxLen at hgm
   have HG := Lib.hid hga
   clear hga
   by_cases hlen : (shotRows S).length = l.length
   rotate_left
   ·
    have hlb : (((shotRows S).length : Int) != ((l.length : Nat) : Int)) = true := by simp; omega
    have hlb2 : (((shotRows S).length : Int) == ((l.length : Nat) : Int)) = false := by simp; omega
    have HLEN := Lib.hid hlen
    obtain ⟨CR6, FR6, LR6⟩ := KR6.cfl
    go_wp2_with fail
    refine bodyPost_ret (by simp [results, Tryz.results239, go_sem, CR6, FR6, LR6]; try rfl) rfl ?_
    refine ⟨_, rfl, ?_, .inr ⟨fun s hs e => ?_, rfl⟩⟩
    ·
     (repeat (refine Ext.setCell ?_ (Nat.le_refl _) _)); exact E6
    have h9 := shot_uniq HR0.out HX0.out HT.out hs e; rw [← HS.out] at h9; subst h9; exact HLEN.out (by rw [e])
   have HLEN := Lib.hid hlen
   rw [hlen] at HG hgc ⊢
   clear hlen
   have CB6 := B6.cell; have LB6 := B6.lt
   obtain ⟨CR6, FR6, LR6⟩ := KR6.cfl
   go_wp2_with fail
   go_loopw [12] (fun i wr => ∃ k : Nat, k ≤ l.length ∧ i = .int .i64 k ∧ Ext w6 wr ∧ Hid ((shotRows S).take k = l.take k)) (fun i _ => l.length - (intOf i).toNat)
   case atStart => exact ⟨0, Nat.zero_le _, rfl, Ext.refl _, Lib.hid (by simp)⟩
   case round =>
    obtain ⟨k, hk, rfl, he9, heq⟩ := hrel
    have KR7 := KR6.ext he9
    have B7 := B6.ext he9
    have CB7 := B7.cell; have LB7 := B7.lt
    obtain ⟨CR7, FR7, LR7⟩ := KR7.cfl
    by_cases hlt : k < l.length
    ·
     obtain ⟨ra, b1, o1, xa, xn, xc, hra, rfl, _, ca, ia⟩ := HG.out k hlt
     obtain ⟨rb, b2, o2', ya, yn, yc, hrb, r9, _, cb, ib⟩ := HA.out k hlt
     injection r9 with r9; injection r9 with r91 r92; subst r91; subst r92
     have da := he9.cell ca
     have db := (E6.trans he9).cell cb
     have HRA := Lib.hid hra; have HRB := Lib.hid hrb
     have ia' := Lib.hid (ia.ext he9); have ib' := Lib.hid (ib.ext (E6.trans he9))
     clear hra hrb ca cb ia ib CB6 CR6 FR6
     by_cases hab : ra = rb
     ·
      have hab' : decide (ra = rb) = true := by simp [hab]
      have HAB := Lib.hid hab
      clear hab
      go_wp2_with fail
      refine wp_region_ext (by kernel_rfl) (by kernel_rfl) ?_
      repeat (first | go_big_quiet_skip | (go_big_quiet_want; first | (refine quiet_load _ _ _ ?_ rfl rfl (fun wq hq => ?_) ?_; rotate_left; (focus (have z0 := hq.cell da; have z1 := hq.cell db; go_simp; first | done | rfl)); (try simp only [redA, Act.put]); go_big_quiet_on) | (go_big_quiet_op; first | go_big_quiet_on | (refine ⟨_, fun _ _ => rfl, ?_⟩; go_big_quiet_on) | (apply Exists.intro; refine ⟨fun wq hq => ?_, ?_⟩; (focus (exact call_ext hq (by have c := sSameRow_c wq _ _ ra rb (ia'.out.ext hq) (ib'.out.ext hq); rw [hab'] at c; exact c))); go_big_quiet_on))))
      refine wpQuiet_nil ?_
      intro w7 hx7
      go_wp2_with fail
      go_roundw
      case rel => exact ⟨k + 1, by omega, by go_num, he9.trans hx7, Lib.hid (by rw [take_snoc HRA.out, take_snoc HRB.out, heq.out, HAB.out])⟩
      case measure => simp [intOf]; omega
     have hab' : decide (ra = rb) = false := by simp [hab]
     have HAB := Lib.hid hab
     clear hab CB7
     go_wp2_with fail
     refine wp_region_ext (by kernel_rfl) (by kernel_rfl) ?_
     repeat (first | go_big_quiet_skip | (go_big_quiet_want; first | (refine quiet_load _ _ _ ?_ rfl rfl (fun wq hq => ?_) ?_; rotate_left; (focus (have z0 := hq.cell da; have z1 := hq.cell db; go_simp; first | done | rfl)); (try simp only [redA, Act.put]); go_big_quiet_on) | (go_big_quiet_op; first | go_big_quiet_on | (refine ⟨_, fun _ _ => rfl, ?_⟩; go_big_quiet_on) | (apply Exists.intro; refine ⟨fun wq hq => ?_, ?_⟩; (focus (exact call_ext hq (by have c := sSameRow_c wq _ _ ra rb (ia'.out.ext hq) (ib'.out.ext hq); rw [hab'] at c; exact c))); go_big_quiet_on))))
     refine wpQuiet_nil ?_
     intro w7 hx7
     have KR8 := KR7.ext hx7
     clear CR7 FR7
     obtain ⟨CR8, FR8, LR8⟩ := KR8.cfl
     go_wp2_with fail
     refine bodyPost_ret (by simp [results, Tryz.results239, go_sem, CR8, FR8, LR8]; try rfl) rfl ?_
     refine ⟨_, rfl, ?_, .inr ⟨fun s hs e => ?_, rfl⟩⟩
     ·
      (repeat (refine Ext.setCell ?_ (Nat.le_refl _) _)); exact (E6.trans he9).trans hx7
     have h9 := shot_uniq HR0.out HX0.out HT.out hs e; rw [← HS.out] at h9; subst h9; have h8 := HRA.out; rw [e, HRB.out] at h8; exact HAB.out (Option.some.inj h8).symm
    obtain rfl : k = l.length := by omega
    have hfin : shotRows S = l := by
     have h9 := heq.out
     rw [List.take_length, List.take_of_length_le (by rw [HLEN.out]; exact Nat.le_refl _)] at h9
     exact h9
    have HF := Lib.hid hfin
    clear hfin CB6 CR6 FR6
    go_wp2_with fail
    refine bodyPost_ret (by simp [results, Tryz.results239, go_sem, CR7, FR7, LR7, CB7, LB7]; try rfl) rfl ?_
    refine ⟨_, rfl, ?_, .inl ⟨S, shotRows_ne (by rw [HF.out]; exact hlp), HF.out, _, rfl, ?_⟩⟩
    ·
     (repeat (refine Ext.setCell ?_ (Nat.le_refl _) _)); exact E6.trans he9
    rw [HS.out]
    exact ⟨_, _, rfl, OwnI.mono (OwnI.keep (OwnI.ext P2 he9) chgT) oM, OwnI.mono (OwnI.keep (OwnI.ext P3 he9) chgT) oM⟩
end Go.Proofs.YtcnioiieiebodaaGreat
namespace Go.G8
open Go.RowKit Go.Proofs.YtcnioiieiebodaaGreat
open Classical in
noncomputable def readShot (l : List (List Int)) : Option DShot := if h : ∃ s, shotOk s = true ∧ shotRows s = l then some h.choose else none
noncomputable def rsShot (l : List (List Int)) : DShot := (readShot l).getD ⟨0, ⟨0, 0, [], [], ⟨0, 0, 0⟩⟩⟩
noncomputable def rsOk (l : List (List Int)) : Bool := (readShot l).isSome
theorem readShot_some {l : List (List Int)} {s : DShot} (h : shotOk s = true) (e : shotRows s = l) : readShot l = some s := by
 have hx : ∃ s, shotOk s = true ∧ shotRows s = l := ⟨s, h, e⟩
 unfold readShot
 rw [dif_pos hx]
 have h2 := hx.choose_spec
 rw [shotRows_inj h2.1 h (h2.2.trans e.symm)]
theorem readShot_none {l : List (List Int)} (h : ∀ s, shotOk s = true → shotRows s ≠ l) : readShot l = none := by
 unfold readShot
 rw [dif_neg]
 rintro ⟨s, h1, h2⟩
 exact h s h1 h2
theorem readShot_is {l : List (List Int)} {s : DShot} (h : readShot l = some s) : shotOk s = true ∧ shotRows s = l := by
 unfold readShot at h
 split at h
 ·
  rename_i hx
  have h2 := hx.choose_spec
  rw [← Option.some.inj h]
  exact h2
 cases h
end Go.G8
namespace Go.Proofs.YtcnioiieiebodaaGreat
open Go.RowKit Go.G8
theorem rs_post {w : World} {l : List (List Int)} {r : Value} {w' : World} (h : (∃ s, shotOk s = true ∧ shotRows s = l ∧ ∃ u, r = .tuple #[u, .bool true] ∧ IsShot w.heap.size w' u s) ∨ ((∀ s, shotOk s = true → shotRows s ≠ l) ∧ r = .tuple #[.agg #[.int .i64 0, .int .i64 0, .int .i64 0, .slice none 0 0, .slice none 0 0, .int .i64 0, .int .i64 0, .int .i64 0], .bool false])) :
  ∃ u, r = .tuple #[u, .bool (rsOk l)] ∧ ∃ F, OwShot w.heap.size w' u (rsShot l) F := by
 rcases h with ⟨s, h1, h2, u, rfl, hu⟩ | ⟨h, rfl⟩
 ·
  have e := readShot_some h1 h2
  refine ⟨u, by simp [rsOk, e], ?_⟩
  rw [show rsShot l = s by simp [rsShot, e]]
  exact hu.ow
 have e := readShot_none h
 refine ⟨_, by simp [rsOk, e]; rfl, ?_⟩
 rw [show rsShot l = ⟨0, ⟨0, 0, [], [], ⟨0, 0, 0⟩⟩⟩ by simp [rsShot, e]]
 exact IsShot.ow ⟨_, _, rfl, OwnI.nil _ _ _ _, OwnI.nil _ _ _ _⟩
theorem sRowsShot_f {w : World} {v : Value} {l : List (List Int)} (h : RdRows w v l) (hr : l.length ≤ 2000000) : Calls Tryz.prog 239 #[v] w (Ret w fun r w' => ∃ u, r = .tuple #[u, .bool (rsOk l)] ∧ ∃ F, OwShot w.heap.size w' u (rsShot l) F) :=
 (sRowsShot_k h hr).mono fun _ _ ⟨v, e, x, q⟩ => ⟨v, e, x, rs_post q⟩
end Go.Proofs.YtcnioiieiebodaaGreat
