/- Rows of pairs and jobs read: the reference. -/
import Derived.Test.YtemhbbpbmgpcaaaShN
import Derived.Test.YtemhbbpbmgpcaaaNum2
import Derived.Test.YtemhbbpbmgpcaaaHelpF
set_option linter.unusedSimpArgs false
set_option linter.unusedVariables false
namespace Go.Proofs.Ytemhbbpbmgpcaaa
open Go.RowKit Go.G8

set_option maxHeartbeats 8000000 in
set_option maxRecDepth 100000 in
theorem sRowPairs_c (w : World) (v : Value) (l : List DPair) (h : Ints 1 w v ((l.length : Int) :: flPair l)) (hl : l.length ≤ 10) :
    Calls Try.prog 69 #[v] w (Ret w fun r w' => ∃ a n c, r = .tuple #[.slice a n c, .bool (pairsOk l)] ∧ (pairsOk l = true → OwnI w.heap.size 106 2 w' (.slice a n c) (flPair l))) := by
  obtain ⟨_, _, _, rfl, hlen, hcap, hm, hnil, hat⟩ := h
  rename_i a N cap
  have hN : N = 1 + 2 * l.length := by simp [length_flPair] at hlen; omega
  obtain ⟨b1, o1, rfl⟩ : ∃ b1 o1, a = some ⟨b1, o1, none⟩ := by
    cases hpa : a with
    | none => have := hnil hpa; omega
    | some q => obtain ⟨b, o, sp⟩ := q; obtain ⟨rfl, _⟩ := hat b o sp hpa (by omega); exact ⟨b, o, rfl⟩
  obtain ⟨_, hbl, hcc⟩ := hat b1 o1 none rfl (by omega)
  have x00 : w.cell? ⟨b1, o1, none⟩ = some (.int .i64 (l.length : Int)) := by have := hcc 0 (.int .i64 (l.length : Int)) rfl; simpa using this
  have hN0 : 0 < N := by omega
  have hNl : N ≤ 100 := by omega
  have hr1 : (N : Int) % 2 = 1 := by omega
  have hr2 : ((N : Nat) : Int).tmod 2 = 1 := by rw [Int.tmod_eq_emod_of_nonneg (by omega)]; omega
  have hr3 : decide ((N : Int) > 21) = false := by simp; omega
  have hr4 : ((N : Int)) ≤ 21 := by omega
  unfold maxLen at hm
  have HC := Lib.hid hcc; have HN := Lib.hid hN
  obtain ⟨i0, hi, hz0, hz1, hz2⟩ := info_parts info_Pair
  clear hcc hat hnil hlen hN
  go_enter Try.func69, Try.ntmps69
  go_wp2_with fail
  go_loopw [4, 5] (fun out i wr => ∃ k : Nat, k ≤ l.length ∧ i = .int .i64 ((1 + 2 * k : Nat) : Int) ∧ Ext w wr ∧ OwnI w.heap.size 106 2 wr out (flPair (l.take k))) (fun _ i _ => 1000 - (intOf i).toNat)
  case atStart => exact ⟨0, Nat.zero_le _, by go_num, (Ext.refl _).alloc _, show OwnI w.heap.size 106 2 _ _ [] from Own.fresh w 106 2⟩
  case round =>
    obtain ⟨k, hk, rfl, he, hown⟩ := hrel
    obtain ⟨la, ln, lc, rfl⟩ := hown.shape
    have hsz := he.size
    by_cases hlt : k < l.length
    · obtain ⟨d, hd⟩ : ∃ d, l[k]? = some d := ⟨_, List.getElem?_eq_getElem hlt⟩
      have HD := Lib.hid hd; have HO := Lib.hid hown
      obtain ⟨i, hi'⟩ : ∃ i : Nat, i = 1 + 2 * k := ⟨_, rfl⟩
      rw [← hi']
      have hnk := HN.out
      have hil : i ≤ 100 := by omega
      have hq0 : (i : Int) < (N : Int) := by omega
      have hr0 : i < N := by omega
      have hq1 : (i : Int) + 1 < (N : Int) := by omega
      have hr1 : i + 1 < N := by omega
      have hwi1 : IntKind.i64.wrap ((i : Int) + 1) = (i : Int) + 1 := by rw [IntKind.wrap_i64]; omega
      have hnn1 : (0 : Int) ≤ (i : Int) + 1 := by omega
      have htn1 : ((i : Int) + 1).toNat = i + 1 := by omega
      have hcc := HC.out
      have x0 : w.cell? ⟨b1, o1 + i, none⟩ = some (.int .i64 d.Key) := by
        have h8 : (((l.length : Int) :: flPair l).map (Value.int .i64))[i]? = some (.int .i64 d.Key) := by
          rw [List.getElem?_map, show i = (k * 2) + 1 by omega, List.getElem?_cons_succ]
          have := flat_get DPair.ints (n := 2) (fun _ => rfl) l k 0 d HD.out (by decide)
          rw [show (flPair l)[k * 2]? = (DPair.ints d)[0]? from this]
          rfl
        exact hcc (i) _ h8
      have x1 : w.cell? ⟨b1, o1 + (i + 1), none⟩ = some (.int .i64 d.Value) := by
        have h8 : (((l.length : Int) :: flPair l).map (Value.int .i64))[i + 1]? = some (.int .i64 d.Value) := by
          rw [List.getElem?_map, show i + 1 = (k * 2 + 1) + 1 by omega, List.getElem?_cons_succ]
          have := flat_get DPair.ints (n := 2) (fun _ => rfl) l k 1 d HD.out (by decide)
          rw [show (flPair l)[k * 2 + 1]? = (DPair.ints d)[1]? from this]
          rfl
        exact hcc (i + 1) _ h8
      have HI := Lib.hid hi'
      have hlk : (flPair (l.take k)).length = k * 2 := by rw [length_flPair, List.length_take]; congr 1; omega
      have d0 := he.cell x0
      have d1 := he.cell x1
      clear hd hown hcc hi' hnk
      go_wp2_with fail
      go_region_held3 (fun w' => w'.cell? ⟨b1, o1 + i, none⟩ = some (.int .i64 d.Key) ∧ w'.cell? ⟨b1, o1 + (i + 1), none⟩ = some (.int .i64 d.Value)) (first | (refine ⟨Ext.cell (w := w) ?_ x0, Ext.cell (w := w) ?_ x1⟩ <;> (repeat' (first | (with_reducible exact Ext.refl _) | (with_reducible assumption) | (with_reducible refine Ext.drewN ?_ _) | (with_reducible refine Ext.drew ?_) | (with_reducible refine Ext.alloc ?_ _) | (with_reducible refine Ext.setCell ?_ ?_ _) | (with_reducible refine Ext.setRow ?_ ?_ _) | (with_reducible exact Nat.le_refl _) | (with_reducible refine Ext.trans ?_ (by assumption)) | omega)); done)) (first | (refine step_append_own rfl (.tmp 23) (.tmp 34) 33 rfl 106 i0 _ 2 16 Try.underlying33 hi hz0 hz1 hz2 rfl (by decide) w.heap.size (.slice la ln lc) _ rfl (Own.ext HO.out (by repeat' (first | (with_reducible exact Ext.refl _) | (with_reducible assumption) | (with_reducible refine Ext.drewN ?_ _) | (with_reducible refine Ext.drew ?_) | (with_reducible refine Ext.alloc ?_ _) | (with_reducible refine Ext.setCell ?_ ?_ _) | (with_reducible refine Ext.setRow ?_ ?_ _) | (with_reducible exact Nat.le_refl _) | (with_reducible refine Ext.trans ?_ (by assumption)) | omega))) ⟨wr.heap.size, 0, none⟩ 1 1 ([d.Key, d.Value].map (.int .i64)) rfl (by simp) (fun j u hu => by rw [add_lit0, Nat.zero_add, ((Blk.new wr _ _).drew).cell]; simpa using hu) (ints_oneCell _ _) (by omega) 1000 (by simp [hlk]; omega) (by unfold maxLen; omega) (by omega) (by simp; omega) ?_; intro v3 wa hown1 hga; have hxa : Ext w wa := Ext.own (v := .slice la ln lc) (he.trans (by repeat' (first | (with_reducible exact Ext.refl _) | (with_reducible assumption) | (with_reducible refine Ext.drewN ?_ _) | (with_reducible refine Ext.drew ?_) | (with_reducible refine Ext.alloc ?_ _) | (with_reducible refine Ext.setCell ?_ ?_ _) | (with_reducible refine Ext.setRow ?_ ?_ _) | (with_reducible exact Nat.le_refl _) | (with_reducible refine Ext.trans ?_ (by assumption)) | omega))) (Own.ext HO.out (by repeat' (first | (with_reducible exact Ext.refl _) | (with_reducible assumption) | (with_reducible refine Ext.drewN ?_ _) | (with_reducible refine Ext.drew ?_) | (with_reducible refine Ext.alloc ?_ _) | (with_reducible refine Ext.setCell ?_ ?_ _) | (with_reducible refine Ext.setRow ?_ ?_ _) | (with_reducible exact Nat.le_refl _) | (with_reducible refine Ext.trans ?_ (by assumption)) | omega))) (Nat.le_refl _) hga))
      all_goals
        have hown3 : OwnI w.heap.size 106 2 wa v3 (flPair (l.take k) ++ [d.Key, d.Value]) := by simpa [OwnI] using hown1
        go_wp2_with fail
        go_roundw
        case rel => exact ⟨k + 1, by omega, by rw [HI.out]; go_num, hxa, by rw [take_snoc HD.out, flPair_snoc]; exact hown3⟩
        case measure => simp [intOf]; omega
    · obtain rfl : k = l.length := by omega
      rw [List.take_length] at hown
      obtain ⟨_, _, e9, _⟩ := hown.ints.recs (f := DPair.ints) (fun _ => rfl) (by decide)
      injection e9 with e1 e2 e3
      subst e1; subst e2; subst e3
      have hNI : ¬ ((1 + 2 * l.length : Nat) : Int) < (N : Int) := by have := HN.out; omega
      have hNI' : ¬ (1 + 2 * l.length : Nat) < N := by have := HN.out; omega
      obtain ⟨i, hi'⟩ : ∃ i : Nat, i = 1 + 2 * l.length := ⟨_, rfl⟩
      rw [← hi'] at hNI hNI' ⊢
      have d00 := he.cell x00
      have HO := Lib.hid hown
      clear hi' hown
      cases hok : pairsOk l
      all_goals
        have HK := Lib.hid hok
        clear hok
        go_wp2_with (first | (go_at_call 81; refine (sPairsOk_c _ _ _ (OwnI.ints HO.out)).mono ?_; rintro e w3 ⟨rfl, hx3⟩; rw [HK.out]))
        go_ret2
      · refine ⟨_, rfl, ?_, _, _, _, by rw [HK.out]; rfl, fun h => by rw [HK.out] at h; cases h⟩
        repeat' (first | (with_reducible exact Ext.refl _) | (with_reducible assumption) | (with_reducible refine Ext.drewN ?_ _) | (with_reducible refine Ext.drew ?_) | (with_reducible refine Ext.alloc ?_ _) | (with_reducible refine Ext.setCell ?_ ?_ _) | (with_reducible refine Ext.setRow ?_ ?_ _) | (with_reducible exact Nat.le_refl _) | (with_reducible refine Ext.trans ?_ (by assumption)) | omega)
      · refine ⟨_, rfl, ?_, _, _, _, by rw [HK.out]; rfl, fun _ => OwnI.ext HO.out hx3⟩
        exact he.trans hx3
set_option maxHeartbeats 8000000 in
set_option maxRecDepth 100000 in
theorem sRowOrders_c (w : World) (v : Value) (l : List DJob) (h : Ints 1 w v ((l.length : Int) :: flJob l)) (hl : l.length ≤ 8) :
    Calls Try.prog 70 #[v] w (Ret w fun r w' => ∃ a n c, r = .tuple #[.slice a n c, .bool (jobsOk l)] ∧ (jobsOk l = true → OwnI w.heap.size 104 5 w' (.slice a n c) (flJob l))) := by
  obtain ⟨_, _, _, rfl, hlen, hcap, hm, hnil, hat⟩ := h
  rename_i a N cap
  have hN : N = 1 + 5 * l.length := by simp [length_flJob] at hlen; omega
  obtain ⟨b1, o1, rfl⟩ : ∃ b1 o1, a = some ⟨b1, o1, none⟩ := by
    cases hpa : a with
    | none => have := hnil hpa; omega
    | some q => obtain ⟨b, o, sp⟩ := q; obtain ⟨rfl, _⟩ := hat b o sp hpa (by omega); exact ⟨b, o, rfl⟩
  obtain ⟨_, hbl, hcc⟩ := hat b1 o1 none rfl (by omega)
  have x00 : w.cell? ⟨b1, o1, none⟩ = some (.int .i64 (l.length : Int)) := by have := hcc 0 (.int .i64 (l.length : Int)) rfl; simpa using this
  have hN0 : 0 < N := by omega
  have hNl : N ≤ 100 := by omega
  have hr1 : (N : Int) % 5 = 1 := by omega
  have hr2 : ((N : Nat) : Int).tmod 5 = 1 := by rw [Int.tmod_eq_emod_of_nonneg (by omega)]; omega
  have hr3 : decide ((N : Int) > 41) = false := by simp; omega
  have hr4 : ((N : Int)) ≤ 41 := by omega
  unfold maxLen at hm
  have HC := Lib.hid hcc; have HN := Lib.hid hN
  obtain ⟨i0, hi, hz0, hz1, hz2⟩ := info_parts info_Job
  clear hcc hat hnil hlen hN
  go_enter Try.func70, Try.ntmps70
  go_wp2_with fail
  go_loopw [4, 5] (fun out i wr => ∃ k : Nat, k ≤ l.length ∧ i = .int .i64 ((1 + 5 * k : Nat) : Int) ∧ Ext w wr ∧ OwnI w.heap.size 104 5 wr out (flJob (l.take k))) (fun _ i _ => 1000 - (intOf i).toNat)
  case atStart => exact ⟨0, Nat.zero_le _, by go_num, (Ext.refl _).alloc _, show OwnI w.heap.size 104 5 _ _ [] from Own.fresh w 104 5⟩
  case round =>
    obtain ⟨k, hk, rfl, he, hown⟩ := hrel
    obtain ⟨la, ln, lc, rfl⟩ := hown.shape
    have hsz := he.size
    by_cases hlt : k < l.length
    · obtain ⟨d, hd⟩ : ∃ d, l[k]? = some d := ⟨_, List.getElem?_eq_getElem hlt⟩
      have HD := Lib.hid hd; have HO := Lib.hid hown
      obtain ⟨i, hi'⟩ : ∃ i : Nat, i = 1 + 5 * k := ⟨_, rfl⟩
      rw [← hi']
      have hnk := HN.out
      have hil : i ≤ 100 := by omega
      have hq0 : (i : Int) < (N : Int) := by omega
      have hr0 : i < N := by omega
      have hq1 : (i : Int) + 1 < (N : Int) := by omega
      have hr1 : i + 1 < N := by omega
      have hwi1 : IntKind.i64.wrap ((i : Int) + 1) = (i : Int) + 1 := by rw [IntKind.wrap_i64]; omega
      have hnn1 : (0 : Int) ≤ (i : Int) + 1 := by omega
      have htn1 : ((i : Int) + 1).toNat = i + 1 := by omega
      have hq2 : (i : Int) + 2 < (N : Int) := by omega
      have hr2 : i + 2 < N := by omega
      have hwi2 : IntKind.i64.wrap ((i : Int) + 2) = (i : Int) + 2 := by rw [IntKind.wrap_i64]; omega
      have hnn2 : (0 : Int) ≤ (i : Int) + 2 := by omega
      have htn2 : ((i : Int) + 2).toNat = i + 2 := by omega
      have hq3 : (i : Int) + 3 < (N : Int) := by omega
      have hr3 : i + 3 < N := by omega
      have hwi3 : IntKind.i64.wrap ((i : Int) + 3) = (i : Int) + 3 := by rw [IntKind.wrap_i64]; omega
      have hnn3 : (0 : Int) ≤ (i : Int) + 3 := by omega
      have htn3 : ((i : Int) + 3).toNat = i + 3 := by omega
      have hq4 : (i : Int) + 4 < (N : Int) := by omega
      have hr4 : i + 4 < N := by omega
      have hwi4 : IntKind.i64.wrap ((i : Int) + 4) = (i : Int) + 4 := by rw [IntKind.wrap_i64]; omega
      have hnn4 : (0 : Int) ≤ (i : Int) + 4 := by omega
      have htn4 : ((i : Int) + 4).toNat = i + 4 := by omega
      have hcc := HC.out
      have x0 : w.cell? ⟨b1, o1 + i, none⟩ = some (.int .i64 d.Id) := by
        have h8 : (((l.length : Int) :: flJob l).map (Value.int .i64))[i]? = some (.int .i64 d.Id) := by
          rw [List.getElem?_map, show i = (k * 5) + 1 by omega, List.getElem?_cons_succ]
          have := flat_get DJob.ints (n := 5) (fun _ => rfl) l k 0 d HD.out (by decide)
          rw [show (flJob l)[k * 5]? = (DJob.ints d)[0]? from this]
          rfl
        exact hcc (i) _ h8
      have x1 : w.cell? ⟨b1, o1 + (i + 1), none⟩ = some (.int .i64 d.Due) := by
        have h8 : (((l.length : Int) :: flJob l).map (Value.int .i64))[i + 1]? = some (.int .i64 d.Due) := by
          rw [List.getElem?_map, show i + 1 = (k * 5 + 1) + 1 by omega, List.getElem?_cons_succ]
          have := flat_get DJob.ints (n := 5) (fun _ => rfl) l k 1 d HD.out (by decide)
          rw [show (flJob l)[k * 5 + 1]? = (DJob.ints d)[1]? from this]
          rfl
        exact hcc (i + 1) _ h8
      have x2 : w.cell? ⟨b1, o1 + (i + 2), none⟩ = some (.int .i64 d.Key) := by
        have h8 : (((l.length : Int) :: flJob l).map (Value.int .i64))[i + 2]? = some (.int .i64 d.Key) := by
          rw [List.getElem?_map, show i + 2 = (k * 5 + 2) + 1 by omega, List.getElem?_cons_succ]
          have := flat_get DJob.ints (n := 5) (fun _ => rfl) l k 2 d HD.out (by decide)
          rw [show (flJob l)[k * 5 + 2]? = (DJob.ints d)[2]? from this]
          rfl
        exact hcc (i + 2) _ h8
      have x3 : w.cell? ⟨b1, o1 + (i + 3), none⟩ = some (.int .i64 d.Value) := by
        have h8 : (((l.length : Int) :: flJob l).map (Value.int .i64))[i + 3]? = some (.int .i64 d.Value) := by
          rw [List.getElem?_map, show i + 3 = (k * 5 + 3) + 1 by omega, List.getElem?_cons_succ]
          have := flat_get DJob.ints (n := 5) (fun _ => rfl) l k 3 d HD.out (by decide)
          rw [show (flJob l)[k * 5 + 3]? = (DJob.ints d)[3]? from this]
          rfl
        exact hcc (i + 3) _ h8
      have x4 : w.cell? ⟨b1, o1 + (i + 4), none⟩ = some (.int .i64 d.Fired) := by
        have h8 : (((l.length : Int) :: flJob l).map (Value.int .i64))[i + 4]? = some (.int .i64 d.Fired) := by
          rw [List.getElem?_map, show i + 4 = (k * 5 + 4) + 1 by omega, List.getElem?_cons_succ]
          have := flat_get DJob.ints (n := 5) (fun _ => rfl) l k 4 d HD.out (by decide)
          rw [show (flJob l)[k * 5 + 4]? = (DJob.ints d)[4]? from this]
          rfl
        exact hcc (i + 4) _ h8
      have HI := Lib.hid hi'
      have hlk : (flJob (l.take k)).length = k * 5 := by rw [length_flJob, List.length_take]; congr 1; omega
      have d0 := he.cell x0
      have d1 := he.cell x1
      have d2 := he.cell x2
      have d3 := he.cell x3
      have d4 := he.cell x4
      clear hd hown hcc hi' hnk
      go_wp2_with fail
      go_region_held3 (fun w' => w'.cell? ⟨b1, o1 + i, none⟩ = some (.int .i64 d.Id) ∧ w'.cell? ⟨b1, o1 + (i + 1), none⟩ = some (.int .i64 d.Due) ∧ w'.cell? ⟨b1, o1 + (i + 2), none⟩ = some (.int .i64 d.Key) ∧ w'.cell? ⟨b1, o1 + (i + 3), none⟩ = some (.int .i64 d.Value) ∧ w'.cell? ⟨b1, o1 + (i + 4), none⟩ = some (.int .i64 d.Fired)) (first | (refine ⟨Ext.cell (w := w) ?_ x0, Ext.cell (w := w) ?_ x1, Ext.cell (w := w) ?_ x2, Ext.cell (w := w) ?_ x3, Ext.cell (w := w) ?_ x4⟩ <;> (repeat' (first | (with_reducible exact Ext.refl _) | (with_reducible assumption) | (with_reducible refine Ext.drewN ?_ _) | (with_reducible refine Ext.drew ?_) | (with_reducible refine Ext.alloc ?_ _) | (with_reducible refine Ext.setCell ?_ ?_ _) | (with_reducible refine Ext.setRow ?_ ?_ _) | (with_reducible exact Nat.le_refl _) | (with_reducible refine Ext.trans ?_ (by assumption)) | omega)); done)) (first | (refine step_append_own rfl (.tmp 23) (.tmp 49) 34 rfl 104 i0 _ 5 40 Try.underlying34 hi hz0 hz1 hz2 rfl (by decide) w.heap.size (.slice la ln lc) _ rfl (Own.ext HO.out (by repeat' (first | (with_reducible exact Ext.refl _) | (with_reducible assumption) | (with_reducible refine Ext.drewN ?_ _) | (with_reducible refine Ext.drew ?_) | (with_reducible refine Ext.alloc ?_ _) | (with_reducible refine Ext.setCell ?_ ?_ _) | (with_reducible refine Ext.setRow ?_ ?_ _) | (with_reducible exact Nat.le_refl _) | (with_reducible refine Ext.trans ?_ (by assumption)) | omega))) ⟨wr.heap.size, 0, none⟩ 1 1 ([d.Id, d.Due, d.Key, d.Value, d.Fired].map (.int .i64)) rfl (by simp) (fun j u hu => by rw [add_lit0, Nat.zero_add, ((Blk.new wr _ _).drew).cell]; simpa using hu) (ints_oneCell _ _) (by omega) 1000 (by simp [hlk]; omega) (by unfold maxLen; omega) (by omega) (by simp; omega) ?_; intro v3 wa hown1 hga; have hxa : Ext w wa := Ext.own (v := .slice la ln lc) (he.trans (by repeat' (first | (with_reducible exact Ext.refl _) | (with_reducible assumption) | (with_reducible refine Ext.drewN ?_ _) | (with_reducible refine Ext.drew ?_) | (with_reducible refine Ext.alloc ?_ _) | (with_reducible refine Ext.setCell ?_ ?_ _) | (with_reducible refine Ext.setRow ?_ ?_ _) | (with_reducible exact Nat.le_refl _) | (with_reducible refine Ext.trans ?_ (by assumption)) | omega))) (Own.ext HO.out (by repeat' (first | (with_reducible exact Ext.refl _) | (with_reducible assumption) | (with_reducible refine Ext.drewN ?_ _) | (with_reducible refine Ext.drew ?_) | (with_reducible refine Ext.alloc ?_ _) | (with_reducible refine Ext.setCell ?_ ?_ _) | (with_reducible refine Ext.setRow ?_ ?_ _) | (with_reducible exact Nat.le_refl _) | (with_reducible refine Ext.trans ?_ (by assumption)) | omega))) (Nat.le_refl _) hga))
      all_goals
        have hown3 : OwnI w.heap.size 104 5 wa v3 (flJob (l.take k) ++ [d.Id, d.Due, d.Key, d.Value, d.Fired]) := by simpa [OwnI] using hown1
        go_wp2_with fail
        go_roundw
        case rel => exact ⟨k + 1, by omega, by rw [HI.out]; go_num, hxa, by rw [take_snoc HD.out, flJob_snoc]; exact hown3⟩
        case measure => simp [intOf]; omega
    · obtain rfl : k = l.length := by omega
      rw [List.take_length] at hown
      obtain ⟨_, _, e9, _⟩ := hown.ints.recs (f := DJob.ints) (fun _ => rfl) (by decide)
      injection e9 with e1 e2 e3
      subst e1; subst e2; subst e3
      have hNI : ¬ ((1 + 5 * l.length : Nat) : Int) < (N : Int) := by have := HN.out; omega
      have hNI' : ¬ (1 + 5 * l.length : Nat) < N := by have := HN.out; omega
      obtain ⟨i, hi'⟩ : ∃ i : Nat, i = 1 + 5 * l.length := ⟨_, rfl⟩
      rw [← hi'] at hNI hNI' ⊢
      have d00 := he.cell x00
      have HO := Lib.hid hown
      clear hi' hown
      cases hok : jobsOk l
      all_goals
        have HK := Lib.hid hok
        clear hok
        go_wp2_with (first | (go_at_call 82; refine (sJobsOk_c _ _ _ (OwnI.ints HO.out)).mono ?_; rintro e w3 ⟨rfl, hx3⟩; rw [HK.out]))
        go_ret2
      · refine ⟨_, rfl, ?_, _, _, _, by rw [HK.out]; rfl, fun h => by rw [HK.out] at h; cases h⟩
        repeat' (first | (with_reducible exact Ext.refl _) | (with_reducible assumption) | (with_reducible refine Ext.drewN ?_ _) | (with_reducible refine Ext.drew ?_) | (with_reducible refine Ext.alloc ?_ _) | (with_reducible refine Ext.setCell ?_ ?_ _) | (with_reducible refine Ext.setRow ?_ ?_ _) | (with_reducible exact Nat.le_refl _) | (with_reducible refine Ext.trans ?_ (by assumption)) | omega)
      · refine ⟨_, rfl, ?_, _, _, _, by rw [HK.out]; rfl, fun _ => OwnI.ext HO.out hx3⟩
        exact he.trans hx3

end Go.Proofs.Ytemhbbpbmgpcaaa
