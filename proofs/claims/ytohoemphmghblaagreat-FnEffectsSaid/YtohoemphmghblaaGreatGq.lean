/- Contracts and plain laws: OB GB OM EM AE SM OG Shf OF. -/
import Derived.Test.YtohoemphmghblaaGreatGc
import Derived.Test.YtohoemphmghblaaGreatGo
import Derived.Test.YtohoemphmghblaaGreatGj
import Derived.Test.YtohoemphmghblaaGreatGk
import Derived.Test.YtohoemphmghblaaGreatGe
import Derived.Test.YtohoemphmghblaaGreatGd
import Derived.Shelf.SlSortCmp.SmallK
import Derived.Shelf.Small.Bits
import Derived.Test.YtohoemphmghblaaGreatProg
-- A slice of bytes opened.
namespace Go.Proofs.YtohoemphmghblaaGreat
open Go.ChangeShapes Go.WideShapes Go.ChangeAt Go.RowKit Go.G8
section
variable {H : Type} {enc : TypeId × Value → H} {W : World} {base : Nat} {sp : Nat → Bool} {held : Bool}
theorem c_uint8 : Tryz.prog.cellsOf 5 = 1 := by kernel_rfl
theorem rd_Bytes {fuel : Nat} {cs : List Value} {x : DataW H × List MemPlace} (h : DataW.trod enc Tryz.prog W base sp held fuel 60 cs = some x) : ∃ s : Value, cs = [s] ∧ Bytes W s := by
  rcases Deep.open_slice1 Tryz.underlying60 c_uint8 h with ⟨rfl, _⟩ | ⟨a, len, cap, m, n, V, D, Pl, rfl, hb, hl, hm, hmm, _, hx⟩
  · exact ⟨_, rfl, [], Sl.nil 1 W, by simp⟩
  · have hlm : len ≤ m := by rw [hmm]; split <;> omega
    obtain ⟨l, hlen, hp⟩ := choose_list (p := fun i (y : Int) => (0 ≤ y ∧ y ≤ 255) ∧ W.cell? (a.add i) = some (.int .u8 y)) len (fun i hi => by
      obtain ⟨h1, h2⟩ := hx i (by omega)
      obtain ⟨y, e, _, hw⟩ := DataW.trod_int Tryz.underlying5 h2
      injection e with e _
      subst_vars
      simp only [Lit.wf, Bool.and_eq_true, decide_eq_true_eq] at hw
      refine ⟨y, ⟨?_, ?_⟩, by rw [h1, e]⟩
      · have := hw.1; simpa [IntKind.min, IntKind.signed] using this
      · have := hw.2; simpa [IntKind.max, IntKind.signed, IntKind.bits] using this)
    obtain ⟨b, off, s⟩ := a
    refine ⟨_, rfl, l, ⟨some ⟨b, off, s⟩, len, cap, rfl, by simpa using hlen, hl, hm, (fun h => by cases h), fun b' off' sp' ha hpos => ?_⟩, fun y hy => ?_⟩
    · injection ha with ha
      injection ha with e1 e2 e3
      subst e1; subst e2; subst e3
      have h0 := (hp 0 _ (List.getElem?_eq_getElem (by omega))).2
      have hs : s = none := by
        have e0 : (⟨b, off, s⟩ : Addr).add 0 = ⟨b, off, s⟩ := by unfold Addr.add; simp
        rw [e0] at h0
        cases s with
        | none => rfl
        | some s => unfold World.cell? at h0; split at h0 <;> simp at h0
      subst hs
      have hcell : ∀ i u, (l.map (Value.int .u8))[i]? = some u → W.cell? ⟨b, off + i, none⟩ = some u := by
        intro i u hu
        rw [List.getElem?_map] at hu
        obtain ⟨y, hy, rfl⟩ := Option.map_eq_some_iff.1 hu
        have := (hp i y hy).2
        rw [add_lit0] at this
        exact this
      have hc0 := hcell 0 _ (by rw [List.getElem?_map, List.getElem?_eq_getElem (by omega)]; rfl)
      exact ⟨rfl, World.block_lt_of_cell? W _ hc0, hcell⟩
    · obtain ⟨i, hi⟩ := List.mem_iff_getElem?.1 hy
      exact (hp i y hi).1
end
end Go.Proofs.YtohoemphmghblaaGreat

-- Of great laws: big.
set_option linter.unusedSimpArgs false
set_option linter.unusedVariables false
namespace Go.Proofs.YtohoemphmghblaaGreat
open Go.RowKit Go.G8

set_option maxHeartbeats 4000000 in
set_option maxRecDepth 100000 in
theorem big_c (w : World) (a : Option Addr) (n k : Nat) : Calls Tryz.prog 19 #[.slice a n k] w (fun e w' => e = .returned (.bool (decide ((4096 : Int) < (n : Int)))) ∧ w = w') := by
  go_enter Tryz.func19, Tryz.ntmps19
  go_wp2_with fail
  go_ret
  exact ⟨by first | rfl | simp, rfl⟩

end Go.Proofs.YtohoemphmghblaaGreat

-- The order of open jobs, without the program.
set_option linter.unusedSimpArgs false
set_option linter.unusedVariables false
namespace Go.Proofs.YtohoemphmghblaaGreat
open Go.RowKit Go.G8

end Go.Proofs.YtohoemphmghblaaGreat
namespace Go.G8
open Go.RowKit
open Go.Proofs.YtohoemphmghblaaGreat
open Go.Sort (SWO PermIn SortedIn)
theorem cmpD_lt (x y : DDue) : Go.Proofs.ltOf cmpD x y = dueLess x y := by
  unfold Go.Proofs.ltOf cmpD Lib.compareInt dueLess
  by_cases h1 : x.Due < y.Due
  · simp [h1]
  · by_cases h2 : y.Due < x.Due
    · have h3 : ¬ x.Due = y.Due := by omega
      simp [h1, h2, h3]
    · have h3 : x.Due = y.Due := by omega
      by_cases h4 : x.Id < y.Id
      · simp [h3, h4]
      · by_cases h5 : y.Id < x.Id <;> simp [h3, h4, h5]
theorem lt_due : Go.Proofs.ltOf cmpD = dueLess := by funext x y; exact cmpD_lt x y
theorem dueLess_iff {a b : DDue} : dueLess a b = true ↔ (a.Due < b.Due ∨ (a.Due = b.Due ∧ a.Id < b.Id)) := by simp [dueLess]
theorem dueLess_not {a b : DDue} : dueLess a b = false ↔ ¬ (a.Due < b.Due ∨ (a.Due = b.Due ∧ a.Id < b.Id)) := by simp [dueLess]
theorem swo_due : SWO dueLess where
  irrefl := fun x => dueLess_not.2 (by omega)
  trans := fun x y z h1 h2 => dueLess_iff.2 (by have := dueLess_iff.1 h1; have := dueLess_iff.1 h2; omega)
  ntrans := fun x y z h1 h2 => dueLess_not.2 (by have := dueLess_not.1 h1; have := dueLess_not.1 h2; omega)
theorem anti_due (x y : DDue) (h1 : dueLess x y = false) (h2 : dueLess y x = false) : x = y := by
  have a := dueLess_not.1 h1; have b := dueLess_not.1 h2
  cases x; cases y
  simp only [] at a b
  congr 1 <;> omega
theorem spos_gt (out : List DDue) (x : Int) : ∀ k, k ≤ out.length → ∀ i d, spos out x k ≤ i → i < k → out[i]? = some d → x < d.Due
  | 0, _, i, d, _, h, _ => by omega
  | k + 1, hk, i, d, h1, h2, hd => by
    have hlt : k < out.length := hk
    have hg : out[k]? = some out[k] := List.getElem?_eq_getElem hlt
    by_cases hx : x < (out[k]).Due
    · rw [spos_down hg hx] at h1
      by_cases hik : i = k
      · subst hik
        rw [hg] at hd
        injection hd with hd
        subst hd
        exact hx
      · exact spos_gt out x k (by omega) i d h1 (by omega) hd
    · rw [spos_stop hg hx] at h1
      omega
theorem spos_le_due (out : List DDue) (x : Int) : ∀ k, k ≤ out.length → ∀ d, 0 < spos out x k → out[spos out x k - 1]? = some d → d.Due ≤ x
  | 0, _, d, h, _ => by simp [spos] at h
  | k + 1, hk, d, h, hd => by
    have hlt : k < out.length := hk
    have hg : out[k]? = some out[k] := List.getElem?_eq_getElem hlt
    by_cases hx : x < (out[k]).Due
    · rw [spos_down hg hx] at h hd
      exact spos_le_due out x k (by omega) d h hd
    · rw [spos_stop hg hx] at h hd
      simp only [Nat.add_sub_cancel] at hd
      rw [hg] at hd
      injection hd with hd
      subst hd
      omega
def SortedD (l : List DDue) : Prop := l.Pairwise (fun a b => dueLess a b = true)
theorem SortedD.get {l : List DDue} (h : SortedD l) {i j : Nat} {a b : DDue} (hij : i < j) (ha : l[i]? = some a) (hb : l[j]? = some b) : dueLess a b = true := by
  obtain ⟨hi, rfl⟩ := List.getElem?_eq_some_iff.1 ha
  obtain ⟨hj, rfl⟩ := List.getElem?_eq_some_iff.1 hb
  exact List.pairwise_iff_getElem.1 h i j hi hj hij
theorem insD_sorted {out : List DDue} {d : DDue} (h : SortedD out) (hid : ∀ a, a ∈ out → a.Id < d.Id) : SortedD (insD out d) := by
  unfold insD
  obtain ⟨p, hp⟩ : ∃ p, p = spos out d.Due out.length := ⟨_, rfl⟩
  have hple : p ≤ out.length := by rw [hp]; exact spos_le _ _ _
  rw [← hp]
  have hta : ∀ a, a ∈ out.take p → dueLess a d = true := by
    intro a ha
    obtain ⟨i, hi, hai⟩ := List.getElem_of_mem ha
    have hi2 : i < p := by simp at hi; omega
    have hao : out[i]? = some a := by
      have := List.getElem?_eq_getElem hi
      rw [hai, List.getElem?_take, if_pos hi2] at this
      exact this
    have hid2 := hid a (List.mem_of_mem_take ha)
    have hq : out[p - 1]? = some (out[p - 1]'(by omega)) := List.getElem?_eq_getElem (by omega)
    have hle := spos_le_due out d.Due out.length (Nat.le_refl _) _ (by omega) (by rw [← hp]; exact hq)
    have hle2 : a.Due ≤ (out[p - 1]'(by omega)).Due := by
      by_cases he : i = p - 1
      · subst he
        rw [hq] at hao
        injection hao with hao
        rw [hao]; exact Int.le_refl _
      · have := dueLess_iff.1 (h.get (show i < p - 1 by omega) hao hq)
        omega
    exact dueLess_iff.2 (by omega)
  have hdb : ∀ b, b ∈ out.drop p → dueLess d b = true := by
    intro b hb
    obtain ⟨i, hi, hbi⟩ := List.getElem_of_mem hb
    have hbo : out[p + i]? = some b := by
      have := List.getElem?_eq_getElem hi
      rw [hbi, List.getElem?_drop] at this
      exact this
    have hi2 : p + i < out.length := (List.getElem?_eq_some_iff.1 hbo).1
    have := spos_gt out d.Due out.length (Nat.le_refl _) (p + i) b (by omega) hi2 hbo
    exact dueLess_iff.2 (by omega)
  have hs : SortedD (out.take p ++ out.drop p) := by rw [List.take_append_drop]; exact h
  obtain ⟨h1, h2, h3⟩ := List.pairwise_append.1 hs
  refine List.pairwise_append.2 ⟨h1, List.pairwise_cons.2 ⟨hdb, h2⟩, fun a ha b hb => ?_⟩
  rcases List.mem_cons.1 hb with rfl | hb
  · exact hta a ha
  · exact h3 a ha b hb
theorem insD_perm (out : List DDue) (d : DDue) : (insD out d).Perm (d :: out) := by
  unfold insD
  have := (List.perm_middle (a := d) (l₁ := out.take (spos out d.Due out.length)) (l₂ := out.drop (spos out d.Due out.length)))
  rwa [List.take_append_drop] at this
theorem fold_sorted : ∀ (L out : List DDue), SortedD out → L.Pairwise (fun a b => a.Id < b.Id) → (∀ a, a ∈ out → ∀ b, b ∈ L → a.Id < b.Id) → SortedD (L.foldl insD out) ∧ (L.foldl insD out).Perm (out ++ L)
  | [], out, h, _, _ => ⟨h, by simp⟩
  | d :: t, out, h, hl, ho => by
    obtain ⟨h1, h2⟩ := List.pairwise_cons.1 hl
    have hs := insD_sorted h (fun a ha => ho a ha d (by simp))
    have hp := insD_perm out d
    obtain ⟨r1, r2⟩ := fold_sorted t (insD out d) hs h2 (fun a ha b hb => by
      rcases List.mem_cons.1 (hp.mem_iff.1 ha) with rfl | ha
      · exact h1 b hb
      · exact ho a ha b (by simp [hb]))
    refine ⟨r1, r2.trans ?_⟩
    exact ((hp.append_right t).trans (by simpa using (List.perm_middle (a := d) (l₁ := out) (l₂ := t)).symm))
theorem opens_srt {l : List DJob} (h : jobsOk l = true) : (opens l).Pairwise (fun a b => a.Id < b.Id) := by
  have hs := (jobsOk_srt h).2.1
  unfold opens
  exact List.pairwise_map.2 ((List.Pairwise.filter _ hs))
theorem openD_sorted {l : List DJob} (h : jobsOk l = true) : SortedD (openD l) ∧ (openD l).Perm (opens l) := by
  have := fold_sorted (opens l) [] List.Pairwise.nil (opens_srt h) (fun a ha => by simp at ha)
  unfold openD
  rw [if_pos h]
  simpa using this
theorem sort_open {l : List DJob} (h : jobsOk l = true) : (Go.Sort.insertionSort (Go.Proofs.ltOf cmpD) (opens l).toArray 0 (opens l).toArray.size).toList = openD l := by
  rw [lt_due]
  obtain ⟨p1, s1⟩ := Go.Sort.insertionSort_holds (lt := dueLess) swo_due (opens l).toArray 0 (opens l).toArray.size (Nat.zero_le _) (Nat.le_refl _)
  have e1 := Go.Sort.sorted_unique_holds (lt := dueLess) swo_due anti_due _ _ p1 s1
  obtain ⟨hs, hp⟩ := openD_sorted h
  have hsz : (openD l).toArray.size = (opens l).toArray.size := by simpa using hp.length_eq
  have e2 := Go.Sort.sorted_unique_holds (lt := dueLess) swo_due anti_due (opens l).toArray (openD l).toArray
    ⟨hsz, fun i hi => by
      have hi : (opens l).toArray.size ≤ i := by omega
      rw [getElem!_neg _ _ (by omega), getElem!_neg _ _ (by omega)], by
      rw [show (openD l).toArray.extract 0 (opens l).toArray.size = (openD l).toArray from by rw [← hsz]; exact Array.extract_size, show (opens l).toArray.extract 0 (opens l).toArray.size = (opens l).toArray from Array.extract_size]
      simpa using hp⟩
    (fun i j _ hij hj => by
      have hj2 : j < (openD l).length := by simp at hsz hj; omega
      rw [getElem!_pos _ j (by simpa using hj2), getElem!_pos _ i (by simp; omega)]
      have := hs.get hij (List.getElem?_eq_getElem (by omega)) (List.getElem?_eq_getElem hj2)
      simp only [List.getElem_toArray]
      exact dueLess_not.2 (by have := dueLess_iff.1 this; omega))
  rw [e1, ← e2]
end Go.G8
namespace Go.Proofs.YtohoemphmghblaaGreat
open Go.RowKit Go.G8

end Go.Proofs.YtohoemphmghblaaGreat

-- What one entry does, without the program.
set_option linter.unusedSimpArgs false
set_option linter.unusedVariables false
namespace Go.Proofs.YtohoemphmghblaaGreat
open Go.RowKit Go.G8

end Go.Proofs.YtohoemphmghblaaGreat
namespace Go.G8
open Go.RowKit
open Go.Proofs.YtohoemphmghblaaGreat
theorem fireL_none {l : List DJob} {id index : Int} (h : ∀ x, x ∈ l → x.Id ≠ id) : fireL l id index = l := by
  unfold fireL
  conv => rhs; rw [← List.map_id l]
  exact List.map_congr_left fun x hx => by simp [fire1, h x hx]
theorem fire_count {id index : Int} (hi : index ≠ 0) : ∀ {l : List DJob} {j : DJob}, Srt DJob.Id l → at_ DJob.Id id l = some j → j.Fired = 0 →
    ((fireL l id index).filter (fun j => decide (j.Fired = 0))).length + 1 = (l.filter (fun j => decide (j.Fired = 0))).length
  | [], _, _, h, _ => by simp [at_] at h
  | x :: t, j, hs, h, hj => by
    obtain ⟨h1, h2⟩ := List.pairwise_cons.1 hs
    by_cases hx : x.Id = id
    · have e : x = j := by
        unfold at_ at h
        rw [List.find?_cons_of_pos (by simp [hx])] at h
        exact Option.some.inj h
      subst e
      have ht : fireL t id index = t := fireL_none fun y hy => by have := h1 y hy; omega
      have e1 : fireL (x :: t) id index = fire1 id index x :: fireL t id index := rfl
      rw [e1, ht]
      have e2 : (fire1 id index x).Fired = index := by simp [fire1, hx]
      simp [e2, hi, hj]
    · have h' : at_ DJob.Id id t = some j := by
        unfold at_ at h ⊢
        rwa [List.find?_cons_of_neg (by simp [hx])] at h
      have ih := fire_count hi h2 h' hj
      have e1 : fireL (x :: t) id index = fire1 id index x :: fireL t id index := rfl
      have e2 : fire1 id index x = x := by simp [fire1, hx]
      rw [e1, e2]
      by_cases hf : x.Fired = 0
      · simp only [List.filter_cons, hf, decide_true, if_true, List.length_cons]; omega
      · simp only [List.filter_cons, hf, decide_false]; exact ih
theorem openD_length {l : List DJob} (h : jobsOk l = true) : (openD l).length = (l.filter (fun j => decide (j.Fired = 0))).length := by
  rw [(openD_sorted h).2.length_eq]; simp [opens]
theorem cutL_none9 {l : List DPair} {k : Int} (h : at_ DPair.Key k l = none) : cutL l k = l := by
  unfold cutL
  rw [List.filter_eq_self]
  intro p hp
  have := List.find?_eq_none.1 h p hp
  simpa using this
theorem opOk_kind9 {o : DOp} (h : opOk o = true) : o.Kind = 1 ∨ o.Kind = 2 ∨ o.Kind = 3 ∨ o.Kind = 4 ∨ o.Kind = 5 := by
  unfold opOk at h
  by_cases h1 : o.Kind = 1
  · exact .inl h1
  by_cases h2 : o.Kind = 2
  · exact .inr (.inl h2)
  by_cases h3 : o.Kind = 3
  · exact .inr (.inr (.inl h3))
  by_cases h4 : o.Kind = 4
  · exact .inr (.inr (.inr (.inl h4)))
  by_cases h5 : o.Kind = 5
  · exact .inr (.inr (.inr (.inr h5)))
  simp [h1, h2, h3, h4, h5] at h
/-- What the next entry does. -/
def EffSays (s D : DState) (e : DEntry) (E : Int) : Prop :=
  (E = 0 ∧ D.Pairs = s.Pairs ∧ D.Jobs = s.Jobs ∧ D.Lease = s.Lease) ∨
  (E = 1 ∧ D.Jobs = s.Jobs ∧ D.Lease = s.Lease) ∨ (E = 2 ∧ D.Jobs = s.Jobs ∧ D.Lease = s.Lease) ∨
  (E = 3 ∧ D.Pairs = s.Pairs ∧ D.Lease = s.Lease ∧ D.Jobs.length = s.Jobs.length + 1) ∨
  (E = 4 ∧ fires s e = true ∧ D.Lease = s.Lease ∧ (openD D.Jobs).length + 1 = (openD s.Jobs).length) ∨
  (E = 5 ∧ D.Pairs = s.Pairs ∧ D.Jobs = s.Jobs ∧ D.Lease.Holder = e.Client)
theorem stepS_at {s : DState} {e : DEntry} : (stepS s e).Index = e.Index ∧ (stepS s e).Time = e.Time := by
  unfold stepS
  repeat' split
  all_goals exact ⟨rfl, rfl⟩
theorem eff_says {s : DState} {e : DEntry} (hs : stateOk s = true) (hn : nextIn s e = true) : EffSays s (stepS s e) e (effS s e) := by
  obtain ⟨he, hi, ht⟩ := nextIn_parts hn
  obtain ⟨e1, e2, e3, e4⟩ := entryOk_parts he
  obtain ⟨_, _, _, hp, hj, hl, _⟩ := stateOk_parts hs
  have hj' := stepS_ok hs hn
  have hjj := (stateOk_parts hj').2.2.2.2.1
  unfold EffSays
  rcases opOk_kind9 e4 with hk | hk | hk | hk | hk
  · refine .inr (.inl ⟨by simp [effS, doesS, hk], ?_, ?_⟩) <;> simp [stepS, hk]
  · cases h : at_ DPair.Key e.Op.A s.Pairs with
    | none => exact .inl ⟨by simp [effS, doesS, hk, h], by simp [stepS, hk, cutL_none9 h], by simp [stepS, hk], by simp [stepS, hk]⟩
    | some p => exact .inr (.inr (.inl ⟨by simp [effS, doesS, hk, h], by simp [stepS, hk], by simp [stepS, hk]⟩))
  · cases h : addOk s.Jobs ⟨e.Op.A, e.Op.B, e.Op.C, e.Op.D, 0⟩
    · exact .inl ⟨by simp [effS, doesS, hk, h], by simp [stepS, hk], by simp [stepS, hk, addR, hj, h], by simp [stepS, hk]⟩
    · have hna : at_ DJob.Id e.Op.A s.Jobs = none := by
        simp only [addOk, Bool.and_eq_true] at h
        have := h.2.2.2.1
        cases h9 : at_ DJob.Id e.Op.A s.Jobs with
        | none => rfl
        | some x => rw [h9] at this; simp at this
      exact .inr (.inr (.inr (.inl ⟨by simp [effS, doesS, hk, h], by simp [stepS, hk], by simp [stepS, hk], by simp [stepS, hk, addR, hj, h, addL, ins_len (key := DJob.Id) (d := ⟨e.Op.A, e.Op.B, e.Op.C, e.Op.D, 0⟩) hna]⟩)))
  · cases h : fires s e
    · exact .inl ⟨by simp [effS, doesS, hk, h], by simp [stepS, hk, h], by simp [stepS, hk, h], by simp [stepS, hk, h]⟩
    · obtain ⟨j, h1, h2, h3⟩ := fires_job h
      refine .inr (.inr (.inr (.inr (.inl ⟨by simp [effS, doesS, hk, h], rfl, by simp [stepS, hk, h], ?_⟩))))
      have e5 : (stepS s e).Jobs = fireL s.Jobs e.Op.A e.Index := by simp [stepS, hk, h]
      rw [openD_length hjj, openD_length hj, e5]
      exact fire_count (by omega) (jobsOk_srt hj).2.1 h1 h2
  · cases h : grantOk s.Lease e.Client e.Time e.Op.A
    · exact .inl ⟨by simp [effS, doesS, hk, h], by simp [stepS, hk], by simp [stepS, hk], by simp [stepS, hk, grantR, hl, h]⟩
    · refine .inr (.inr (.inr (.inr (.inr ⟨by simp [effS, doesS, hk, h], by simp [stepS, hk], by simp [stepS, hk], ?_⟩))))
      simp only [stepS, hk]
      simp only [grantR, hl, h, if_true, grantL]
      by_cases hh : s.Lease.Holder = e.Client
      · simp [hh]
      · simp [hh]
end Go.G8
namespace Go.Proofs.YtohoemphmghblaaGreat
open Go.RowKit Go.G8

end Go.Proofs.YtohoemphmghblaaGreat

-- One entry, by the program.
set_option linter.unusedSimpArgs false
set_option linter.unusedVariables false
namespace Go.Proofs.YtohoemphmghblaaGreat
open Go.RowKit Go.G8

set_option maxHeartbeats 4000000 in
set_option maxRecDepth 100000 in
theorem nextIn_e {w : World} {v : Value} {s : DState} (h : RdState w v s) (ei et ec es ok oa ob oc od : Int) : Calls Tryz.prog 33 #[v, .agg #[.int .i64 ei, .int .i64 et, .int .i64 ec, .int .i64 es, .int .i64 ok, .int .i64 oa, .int .i64 ob, .int .i64 oc, .int .i64 od]] w (RetV w (.bool (appOk s ⟨ei, et, ec, es, ⟨ok, oa, ob, oc, od⟩⟩))) := by
  have HS := Lib.hid h
  obtain ⟨a2, n2, k2, a3, n3, k3, rfl⟩ := h.shape
  clear h
  obtain ⟨w0, hw0⟩ : ∃ w0, w0 = ((w.alloc (.cells #[.int .i64 s.Index, .int .i64 s.Time, .slice a2 n2 k2, .slice a3 n3 k3, .int .i64 s.Lease.Holder, .int .i64 s.Lease.Epoch, .int .i64 s.Lease.Until] 46)).alloc (.cells #[.int .i64 ei, .int .i64 et, .int .i64 ec, .int .i64 es, .int .i64 ok, .int .i64 oa, .int .i64 ob, .int .i64 oc, .int .i64 od] 80)) := ⟨_, rfl⟩
  have E0 : Ext w w0 := by rw [hw0]; exact ((Ext.refl _).alloc _).alloc _
  have KX0 : Blk w0 w.heap.size 46 #[.int .i64 s.Index, .int .i64 s.Time, .slice a2 n2 k2, .slice a3 n3 k3, .int .i64 s.Lease.Holder, .int .i64 s.Lease.Epoch, .int .i64 s.Lease.Until] := by rw [hw0]; exact (Blk.new _ _ _).alloc _
  have KY0 : Blk w0 (w.heap.size + 1) 80 #[.int .i64 ei, .int .i64 et, .int .i64 ec, .int .i64 es, .int .i64 ok, .int .i64 oa, .int .i64 ob, .int .i64 oc, .int .i64 od] := by rw [hw0]; exact Blk.new2 _ _ _ _
  have HW := Lib.hid hw0
  clear hw0
  have CX0 := KX0.cell; have FX0 := KX0.frozen; have LX0 := KX0.lt; have CY0 := KY0.cell; have FY0 := KY0.frozen; have LY0 := KY0.lt
  go_enter Tryz.func33, Tryz.ntmps33
  go_wp2_with fail
  rw [← HW.out]
  have HM := Lib.hid (show appOk s ⟨ei, et, ec, es, ⟨ok, oa, ob, oc, od⟩⟩ = (stateOk s && nextIn s ⟨ei, et, ec, es, ⟨ok, oa, ob, oc, od⟩⟩) from rfl)
  go_wp2_with fail
  refine (stateOk_k (HS.out.ext E0)).mono ?_
  rintro e w1 ⟨rfl, hx1⟩
  have KX1 := KX0.ext hx1
  have KY1 := KY0.ext hx1
  have E1 : Ext w w1 := E0.trans hx1
  have hz1 := hx1.size
  clear CX0 FX0 LX0 CY0 FY0 LY0
  have CX1 := KX1.cell; have FX1 := KX1.frozen; have LX1 := KX1.lt; have CY1 := KY1.cell; have FY1 := KY1.frozen; have LY1 := KY1.lt
  cases hso : stateOk s
  · skip
    go_wp2_with fail
    go_ret
    exact ⟨by rw [HM.out, hso]; rfl, E1⟩
  have HSO := Lib.hid hso
  have hsi := (stateOk_parts hso).1; have hsj := (stateOk_parts hso).2.1
  clear hso
  go_wp2_with fail
  refine (nextIn_k (HS.out.ext E1) ei et ec es ok oa ob oc od hsi hsj).mono ?_
  rintro e w2 ⟨rfl, hx2⟩
  have KX2 := KX1.ext hx2
  have KY2 := KY1.ext hx2
  have E2 : Ext w w2 := E1.trans hx2
  have hz2 := hx2.size
  clear CX1 FX1 LX1 CY1 FY1 LY1
  have CX2 := KX2.cell; have FX2 := KX2.frozen; have LX2 := KX2.lt; have CY2 := KY2.cell; have FY2 := KY2.frozen; have LY2 := KY2.lt
  clear hsi hsj
  obtain ⟨b, hb⟩ : ∃ b, b = nextIn s ⟨ei, et, ec, es, ⟨ok, oa, ob, oc, od⟩⟩ := ⟨_, rfl⟩
  rw [← hb]
  have HB := Lib.hid hb
  clear hb
  go_wp2_with fail
  go_ret
  exact ⟨by rw [HM.out, HSO.out, ← HB.out]; rfl, E2⟩
set_option maxHeartbeats 4000000 in
set_option maxRecDepth 100000 in
theorem firesIn_e {w : World} {v : Value} {s : DState} (h : RdState w v s) (ei et ec es ok oa ob oc od : Int) : Calls Tryz.prog 36 #[v, .agg #[.int .i64 ei, .int .i64 et, .int .i64 ec, .int .i64 es, .int .i64 ok, .int .i64 oa, .int .i64 ob, .int .i64 oc, .int .i64 od]] w (RetV w (.bool (appOk s ⟨ei, et, ec, es, ⟨ok, oa, ob, oc, od⟩⟩ && fires s ⟨ei, et, ec, es, ⟨ok, oa, ob, oc, od⟩⟩))) := by
  have HS := Lib.hid h
  obtain ⟨a2, n2, k2, a3, n3, k3, rfl⟩ := h.shape
  clear h
  obtain ⟨w0, hw0⟩ : ∃ w0, w0 = ((w.alloc (.cells #[.int .i64 s.Index, .int .i64 s.Time, .slice a2 n2 k2, .slice a3 n3 k3, .int .i64 s.Lease.Holder, .int .i64 s.Lease.Epoch, .int .i64 s.Lease.Until] 46)).alloc (.cells #[.int .i64 ei, .int .i64 et, .int .i64 ec, .int .i64 es, .int .i64 ok, .int .i64 oa, .int .i64 ob, .int .i64 oc, .int .i64 od] 80)) := ⟨_, rfl⟩
  have E0 : Ext w w0 := by rw [hw0]; exact ((Ext.refl _).alloc _).alloc _
  have KX0 : Blk w0 w.heap.size 46 #[.int .i64 s.Index, .int .i64 s.Time, .slice a2 n2 k2, .slice a3 n3 k3, .int .i64 s.Lease.Holder, .int .i64 s.Lease.Epoch, .int .i64 s.Lease.Until] := by rw [hw0]; exact (Blk.new _ _ _).alloc _
  have KY0 : Blk w0 (w.heap.size + 1) 80 #[.int .i64 ei, .int .i64 et, .int .i64 ec, .int .i64 es, .int .i64 ok, .int .i64 oa, .int .i64 ob, .int .i64 oc, .int .i64 od] := by rw [hw0]; exact Blk.new2 _ _ _ _
  have HW := Lib.hid hw0
  clear hw0
  have CX0 := KX0.cell; have FX0 := KX0.frozen; have LX0 := KX0.lt; have CY0 := KY0.cell; have FY0 := KY0.frozen; have LY0 := KY0.lt
  go_enter Tryz.func36, Tryz.ntmps36
  go_wp2_with fail
  rw [← HW.out]
  go_wp2_with fail
  refine (nextIn_e (HS.out.ext E0) ei et ec es ok oa ob oc od).mono ?_
  rintro e w1 ⟨rfl, hx1⟩
  have KX1 := KX0.ext hx1
  have KY1 := KY0.ext hx1
  have E1 : Ext w w1 := E0.trans hx1
  have hz1 := hx1.size
  clear CX0 FX0 LX0 CY0 FY0 LY0
  have CX1 := KX1.cell; have FX1 := KX1.frozen; have LX1 := KX1.lt; have CY1 := KY1.cell; have FY1 := KY1.frozen; have LY1 := KY1.lt
  cases hso : appOk s ⟨ei, et, ec, es, ⟨ok, oa, ob, oc, od⟩⟩
  · skip
    have HA := Lib.hid hso
    clear hso
    go_wp2_with fail
    go_ret
    exact ⟨by rw [HA.out]; rfl, E1⟩
  have HA := Lib.hid hso
  clear hso
  go_wp2_with fail
  refine (fires_k (HS.out.ext E1) ei et ec es ok oa ob oc od).mono ?_
  rintro e w2 ⟨rfl, hx2⟩
  have KX2 := KX1.ext hx2
  have KY2 := KY1.ext hx2
  have E2 : Ext w w2 := E1.trans hx2
  have hz2 := hx2.size
  clear CX1 FX1 LX1 CY1 FY1 LY1
  have CX2 := KX2.cell; have FX2 := KX2.frozen; have LX2 := KX2.lt; have CY2 := KY2.cell; have FY2 := KY2.frozen; have LY2 := KY2.lt
  obtain ⟨b, hb⟩ : ∃ b, b = fires s ⟨ei, et, ec, es, ⟨ok, oa, ob, oc, od⟩⟩ := ⟨_, rfl⟩
  rw [← hb]
  have HB := Lib.hid hb
  clear hb
  go_wp2_with fail
  go_ret
  exact ⟨by rw [HA.out, ← HB.out]; rfl, E2⟩
set_option maxHeartbeats 4000000 in
set_option maxRecDepth 100000 in
theorem applied_e {w : World} {v : Value} {s : DState} (h : RdState w v s) (ei et ec es ok oa ob oc od : Int) : Calls Tryz.prog 30 #[v, .agg #[.int .i64 ei, .int .i64 et, .int .i64 ec, .int .i64 es, .int .i64 ok, .int .i64 oa, .int .i64 ob, .int .i64 oc, .int .i64 od]] w (Ret w fun r w' => ∃ u, r = .tuple #[u, .bool (appOk s ⟨ei, et, ec, es, ⟨ok, oa, ob, oc, od⟩⟩)] ∧ IsState w.heap.size w' u (appD s ⟨ei, et, ec, es, ⟨ok, oa, ob, oc, od⟩⟩)) := by
  have HS := Lib.hid h
  obtain ⟨a2, n2, k2, a3, n3, k3, rfl⟩ := h.shape
  clear h
  obtain ⟨w0, hw0⟩ : ∃ w0, w0 = ((w.alloc (.cells #[.int .i64 s.Index, .int .i64 s.Time, .slice a2 n2 k2, .slice a3 n3 k3, .int .i64 s.Lease.Holder, .int .i64 s.Lease.Epoch, .int .i64 s.Lease.Until] 46)).alloc (.cells #[.int .i64 ei, .int .i64 et, .int .i64 ec, .int .i64 es, .int .i64 ok, .int .i64 oa, .int .i64 ob, .int .i64 oc, .int .i64 od] 80)).alloc (.cells #[.int .i64 0, .int .i64 0, .slice none 0 0, .slice none 0 0, .int .i64 0, .int .i64 0, .int .i64 0] 46) := ⟨_, rfl⟩
  have E0 : Ext w w0 := by rw [hw0]; exact (((Ext.refl _).alloc _).alloc _).alloc _
  have KX0 : Blk w0 w.heap.size 46 #[.int .i64 s.Index, .int .i64 s.Time, .slice a2 n2 k2, .slice a3 n3 k3, .int .i64 s.Lease.Holder, .int .i64 s.Lease.Epoch, .int .i64 s.Lease.Until] := by rw [hw0]; exact ((Blk.new _ _ _).alloc _).alloc _
  have KY0 : Blk w0 (w.heap.size + 1) 80 #[.int .i64 ei, .int .i64 et, .int .i64 ec, .int .i64 es, .int .i64 ok, .int .i64 oa, .int .i64 ob, .int .i64 oc, .int .i64 od] := by rw [hw0]; exact (Blk.new2 _ _ _ _).alloc _
  have KZ0 : Blk w0 (w.heap.size + 1 + 1) 46 #[.int .i64 0, .int .i64 0, .slice none 0 0, .slice none 0 0, .int .i64 0, .int .i64 0, .int .i64 0] := by rw [hw0]; exact Blk.new3 _ _ _ _ _
  have hz0 : w.heap.size + 3 ≤ w0.heap.size := by rw [hw0]; simp
  have HW := Lib.hid hw0
  clear hw0
  have CX0 := KX0.cell; have FX0 := KX0.frozen; have LX0 := KX0.lt; have CY0 := KY0.cell; have FY0 := KY0.frozen; have LY0 := KY0.lt; have CZ0 := KZ0.cell; have FZ0 := KZ0.frozen; have LZ0 := KZ0.lt
  go_enter Tryz.func30, Tryz.ntmps30
  go_wp2_with fail
  rw [← HW.out]
  go_wp2_with fail
  refine (stateOk_k (HS.out.ext E0)).mono ?_
  rintro e w1 ⟨rfl, hx1⟩
  have KX1 := KX0.ext hx1
  have KY1 := KY0.ext hx1
  have KZ1 := KZ0.ext hx1
  have E1 : Ext w w1 := E0.trans hx1
  have hz1 := hx1.size
  clear CX0 FX0 LX0 CY0 FY0 LY0 CZ0 FZ0 LZ0
  have CX1 := KX1.cell; have FX1 := KX1.frozen; have LX1 := KX1.lt; have CY1 := KY1.cell; have FY1 := KY1.frozen; have LY1 := KY1.lt; have CZ1 := KZ1.cell; have FZ1 := KZ1.frozen; have LZ1 := KZ1.lt
  cases hso : stateOk s
  · skip
    have HA := Lib.hid (show appOk s ⟨ei, et, ec, es, ⟨ok, oa, ob, oc, od⟩⟩ = false from by simp [appOk, hso])
    have HM := Lib.hid (show appD s ⟨ei, et, ec, es, ⟨ok, oa, ob, oc, od⟩⟩ = ⟨0, 0, [], [], ⟨0, 0, 0⟩⟩ from by simp [appD, hso])
    go_wp2_with fail
    refine bodyPost_ret (by simp [results, Tryz.results30, go_sem, CZ1, FZ1, LZ1]; try rfl) rfl ?_
    refine ⟨_, rfl, by repeat' (first | (with_reducible exact Ext.refl _) | (with_reducible assumption) | (with_reducible refine Ext.drewN ?_ _) | (with_reducible refine Ext.drew ?_) | (with_reducible refine Ext.alloc ?_ _) | (with_reducible refine Ext.setCell ?_ ?_ _) | (with_reducible refine Ext.setRow ?_ ?_ _) | (with_reducible exact Nat.le_refl _) | (with_reducible refine Ext.trans ?_ (by assumption)) | omega), _, by rw [HA.out], ?_⟩
    rw [HM.out]
    exact IsState.mono (B := w.heap.size) ⟨_, _, rfl, OwnI.nil _ _ _ _, OwnI.nil _ _ _ _⟩ (Nat.le_refl _)
  have HSO := Lib.hid hso
  have hsi := (stateOk_parts hso).1; have hsj := (stateOk_parts hso).2.1
  clear hso
  go_wp2_with fail
  refine (nextIn_k (HS.out.ext E1) ei et ec es ok oa ob oc od hsi hsj).mono ?_
  rintro e w2 ⟨rfl, hx2⟩
  have KX2 := KX1.ext hx2
  have KY2 := KY1.ext hx2
  have KZ2 := KZ1.ext hx2
  have E2 : Ext w w2 := E1.trans hx2
  have hz2 := hx2.size
  clear CX1 FX1 LX1 CY1 FY1 LY1 CZ1 FZ1 LZ1
  have CX2 := KX2.cell; have FX2 := KX2.frozen; have LX2 := KX2.lt; have CY2 := KY2.cell; have FY2 := KY2.frozen; have LY2 := KY2.lt; have CZ2 := KZ2.cell; have FZ2 := KZ2.frozen; have LZ2 := KZ2.lt
  clear hsi hsj
  cases hno : nextIn s ⟨ei, et, ec, es, ⟨ok, oa, ob, oc, od⟩⟩
  · skip
    have HA := Lib.hid (show appOk s ⟨ei, et, ec, es, ⟨ok, oa, ob, oc, od⟩⟩ = false from by simp [appOk, hno])
    have HM := Lib.hid (show appD s ⟨ei, et, ec, es, ⟨ok, oa, ob, oc, od⟩⟩ = s from by simp [appD, HSO.out, hno])
    clear hno
    go_wp2_with fail
    refine (copyState_k (HS.out.ext E2) (stateOk_small2 HSO.out)).mono ?_
    rintro e w3 ⟨_, rfl, hx3, q2, q3, rfl, g2, g3⟩
    have KX3 := KX2.ext hx3
    have KY3 := KY2.ext hx3
    have KZ3 := KZ2.ext hx3
    have E3 : Ext w w3 := E2.trans hx3
    have hz3 := hx3.size
    clear CX2 FX2 LX2 CY2 FY2 LY2 CZ2 FZ2 LZ2
    have CX3 := KX3.cell; have FX3 := KX3.frozen; have LX3 := KX3.lt; have CY3 := KY3.cell; have FY3 := KY3.frozen; have LY3 := KY3.lt; have CZ3 := KZ3.cell; have FZ3 := KZ3.frozen; have LZ3 := KZ3.lt
    obtain ⟨b2, m2, c2, rfl⟩ := g2.shape
    obtain ⟨b3, m3, c3, rfl⟩ := g3.shape
    go_wp2_with fail
    refine bodyPost_ret (by simp [results, Tryz.results30, go_sem, CZ3, FZ3, LZ3]; try rfl) rfl ?_
    refine ⟨_, rfl, by repeat' (first | (with_reducible exact Ext.refl _) | (with_reducible assumption) | (with_reducible refine Ext.drewN ?_ _) | (with_reducible refine Ext.drew ?_) | (with_reducible refine Ext.alloc ?_ _) | (with_reducible refine Ext.setCell ?_ ?_ _) | (with_reducible refine Ext.setRow ?_ ?_ _) | (with_reducible exact Nat.le_refl _) | (with_reducible refine Ext.trans ?_ (by assumption)) | omega), _, by rw [HA.out], ?_⟩
    rw [HM.out]
    exact ⟨_, _, rfl, OwnI.mono (OwnI.keep g2 (by repeat' (first | (with_reducible exact Chg.refl _ _) | (with_reducible refine Chg.drewN ?_ _) | (with_reducible refine Chg.drew ?_) | (with_reducible refine Chg.alloc ?_ _) | (with_reducible refine Chg.setLow ?_ (by omega) _) | (with_reducible refine Chg.setNew ?_ (by omega) _) | (with_reducible refine Chg.setRow ?_ (by omega) _) | (with_reducible refine Chg.ext ?_ (by assumption)) | omega))) (by omega), OwnI.mono (OwnI.keep g3 (by repeat' (first | (with_reducible exact Chg.refl _ _) | (with_reducible refine Chg.drewN ?_ _) | (with_reducible refine Chg.drew ?_) | (with_reducible refine Chg.alloc ?_ _) | (with_reducible refine Chg.setLow ?_ (by omega) _) | (with_reducible refine Chg.setNew ?_ (by omega) _) | (with_reducible refine Chg.setRow ?_ (by omega) _) | (with_reducible refine Chg.ext ?_ (by assumption)) | omega))) (by omega)⟩
  have HNO := Lib.hid hno
  have HA := Lib.hid (show appOk s ⟨ei, et, ec, es, ⟨ok, oa, ob, oc, od⟩⟩ = true from by simp [appOk, HSO.out, hno])
  have HM := Lib.hid (show appD s ⟨ei, et, ec, es, ⟨ok, oa, ob, oc, od⟩⟩ = stepS s ⟨ei, et, ec, es, ⟨ok, oa, ob, oc, od⟩⟩ from by simp [appD, HSO.out, hno])
  clear hno
  go_wp2_with fail
  refine (applied_k (HS.out.ext E2) ei et ec es ok oa ob oc od HSO.out HNO.out).mono ?_
  rintro e w3 ⟨_, rfl, hx3, _, rfl, q2, q3, rfl, g2, g3⟩
  have KX3 := KX2.ext hx3
  have KY3 := KY2.ext hx3
  have KZ3 := KZ2.ext hx3
  have E3 : Ext w w3 := E2.trans hx3
  have hz3 := hx3.size
  clear CX2 FX2 LX2 CY2 FY2 LY2 CZ2 FZ2 LZ2
  have CX3 := KX3.cell; have FX3 := KX3.frozen; have LX3 := KX3.lt; have CY3 := KY3.cell; have FY3 := KY3.frozen; have LY3 := KY3.lt; have CZ3 := KZ3.cell; have FZ3 := KZ3.frozen; have LZ3 := KZ3.lt
  obtain ⟨b2, m2, c2, rfl⟩ := g2.shape
  obtain ⟨b3, m3, c3, rfl⟩ := g3.shape
  go_wp2_with fail
  refine bodyPost_ret (by simp [results, Tryz.results30, go_sem, CZ3, FZ3, LZ3]; try rfl) rfl ?_
  refine ⟨_, rfl, by repeat' (first | (with_reducible exact Ext.refl _) | (with_reducible assumption) | (with_reducible refine Ext.drewN ?_ _) | (with_reducible refine Ext.drew ?_) | (with_reducible refine Ext.alloc ?_ _) | (with_reducible refine Ext.setCell ?_ ?_ _) | (with_reducible refine Ext.setRow ?_ ?_ _) | (with_reducible exact Nat.le_refl _) | (with_reducible refine Ext.trans ?_ (by assumption)) | omega), _, by rw [HA.out], ?_⟩
  rw [HM.out]
  exact ⟨_, _, rfl, OwnI.mono (OwnI.keep g2 (by repeat' (first | (with_reducible exact Chg.refl _ _) | (with_reducible refine Chg.drewN ?_ _) | (with_reducible refine Chg.drew ?_) | (with_reducible refine Chg.alloc ?_ _) | (with_reducible refine Chg.setLow ?_ (by omega) _) | (with_reducible refine Chg.setNew ?_ (by omega) _) | (with_reducible refine Chg.setRow ?_ (by omega) _) | (with_reducible refine Chg.ext ?_ (by assumption)) | omega))) (by omega), OwnI.mono (OwnI.keep g3 (by repeat' (first | (with_reducible exact Chg.refl _ _) | (with_reducible refine Chg.drewN ?_ _) | (with_reducible refine Chg.drew ?_) | (with_reducible refine Chg.alloc ?_ _) | (with_reducible refine Chg.setLow ?_ (by omega) _) | (with_reducible refine Chg.setNew ?_ (by omega) _) | (with_reducible refine Chg.setRow ?_ (by omega) _) | (with_reducible refine Chg.ext ?_ (by assumption)) | omega))) (by omega)⟩
set_option maxHeartbeats 4000000 in
set_option maxRecDepth 100000 in
theorem effectOf_e {w : World} {v : Value} {s : DState} (h : RdState w v s) (ei et ec es ok oa ob oc od : Int) : Calls Tryz.prog 31 #[v, .agg #[.int .i64 ei, .int .i64 et, .int .i64 ec, .int .i64 es, .int .i64 ok, .int .i64 oa, .int .i64 ob, .int .i64 oc, .int .i64 od]] w (RetV w (.int .i64 (effAt s ⟨ei, et, ec, es, ⟨ok, oa, ob, oc, od⟩⟩))) := by
  have HS := Lib.hid h
  obtain ⟨a2, n2, k2, a3, n3, k3, rfl⟩ := h.shape
  clear h
  obtain ⟨w0, hw0⟩ : ∃ w0, w0 = ((w.alloc (.cells #[.int .i64 s.Index, .int .i64 s.Time, .slice a2 n2 k2, .slice a3 n3 k3, .int .i64 s.Lease.Holder, .int .i64 s.Lease.Epoch, .int .i64 s.Lease.Until] 46)).alloc (.cells #[.int .i64 ei, .int .i64 et, .int .i64 ec, .int .i64 es, .int .i64 ok, .int .i64 oa, .int .i64 ob, .int .i64 oc, .int .i64 od] 80)) := ⟨_, rfl⟩
  have E0 : Ext w w0 := by rw [hw0]; exact ((Ext.refl _).alloc _).alloc _
  have KX0 : Blk w0 w.heap.size 46 #[.int .i64 s.Index, .int .i64 s.Time, .slice a2 n2 k2, .slice a3 n3 k3, .int .i64 s.Lease.Holder, .int .i64 s.Lease.Epoch, .int .i64 s.Lease.Until] := by rw [hw0]; exact (Blk.new _ _ _).alloc _
  have KY0 : Blk w0 (w.heap.size + 1) 80 #[.int .i64 ei, .int .i64 et, .int .i64 ec, .int .i64 es, .int .i64 ok, .int .i64 oa, .int .i64 ob, .int .i64 oc, .int .i64 od] := by rw [hw0]; exact Blk.new2 _ _ _ _
  have HW := Lib.hid hw0
  clear hw0
  have CX0 := KX0.cell; have FX0 := KX0.frozen; have LX0 := KX0.lt; have CY0 := KY0.cell; have FY0 := KY0.frozen; have LY0 := KY0.lt
  go_enter Tryz.func31, Tryz.ntmps31
  go_wp2_with fail
  rw [← HW.out]
  go_wp2_with fail
  refine (nextIn_e (HS.out.ext E0) ei et ec es ok oa ob oc od).mono ?_
  rintro e w1 ⟨rfl, hx1⟩
  have KX1 := KX0.ext hx1
  have KY1 := KY0.ext hx1
  have E1 : Ext w w1 := E0.trans hx1
  have hz1 := hx1.size
  clear CX0 FX0 LX0 CY0 FY0 LY0
  have CX1 := KX1.cell; have FX1 := KX1.frozen; have LX1 := KX1.lt; have CY1 := KY1.cell; have FY1 := KY1.frozen; have LY1 := KY1.lt
  cases hso : appOk s ⟨ei, et, ec, es, ⟨ok, oa, ob, oc, od⟩⟩
  · skip
    have HM := Lib.hid (show effAt s ⟨ei, et, ec, es, ⟨ok, oa, ob, oc, od⟩⟩ = -1 from by simp only [appOk] at hso; simp [effAt, hso])
    clear hso
    go_wp2_with fail
    go_ret
    exact ⟨congrArg (fun z => Ending.returned (.int .i64 z)) HM.out.symm, E1⟩
  have HM := Lib.hid (show effAt s ⟨ei, et, ec, es, ⟨ok, oa, ob, oc, od⟩⟩ = effS s ⟨ei, et, ec, es, ⟨ok, oa, ob, oc, od⟩⟩ from by simp only [appOk] at hso; simp [effAt, hso])
  have hs := (Bool.and_eq_true _ _).mp hso
  have HS1 := Lib.hid hs.1; have HS2 := Lib.hid hs.2
  clear hs hso
  go_wp2_with fail
  refine (applied_k (HS.out.ext E1) ei et ec es ok oa ob oc od HS1.out HS2.out).mono ?_
  rintro e w2 ⟨_, rfl, hx2, _, rfl, q2, q3, rfl, g2, g3⟩
  have KX2 := KX1.ext hx2
  have KY2 := KY1.ext hx2
  have E2 : Ext w w2 := E1.trans hx2
  have hz2 := hx2.size
  clear CX1 FX1 LX1 CY1 FY1 LY1
  have CX2 := KX2.cell; have FX2 := KX2.frozen; have LX2 := KX2.lt; have CY2 := KY2.cell; have FY2 := KY2.frozen; have LY2 := KY2.lt
  obtain ⟨b2, m2, c2, rfl⟩ := g2.shape
  obtain ⟨b3, m3, c3, rfl⟩ := g3.shape
  obtain ⟨z, hz⟩ : ∃ z, z = effS s ⟨ei, et, ec, es, ⟨ok, oa, ob, oc, od⟩⟩ := ⟨_, rfl⟩
  rw [← hz]
  have HZ := Lib.hid hz
  clear hz
  go_wp2_with fail
  go_ret
  exact ⟨congrArg (fun z => Ending.returned (.int .i64 z)) (HZ.out.trans HM.out.symm), by repeat' (first | (with_reducible exact Ext.refl _) | (with_reducible assumption) | (with_reducible refine Ext.drewN ?_ _) | (with_reducible refine Ext.drew ?_) | (with_reducible refine Ext.alloc ?_ _) | (with_reducible refine Ext.setCell ?_ ?_ _) | (with_reducible refine Ext.setRow ?_ ?_ _) | (with_reducible exact Nat.le_refl _) | (with_reducible refine Ext.trans ?_ (by assumption)) | omega)⟩

end Go.Proofs.YtohoemphmghblaaGreat

-- The reference's comparison of states.
set_option linter.unusedSimpArgs false
set_option linter.unusedVariables false
namespace Go.Proofs.YtohoemphmghblaaGreat
open Go.RowKit Go.G8

set_option maxHeartbeats 4000000 in
set_option maxRecDepth 100000 in
theorem sSamePairs_c {w : World} {v u : Value} {a b : List DPair} (ha : Ints 2 w v (flPair a)) (hb : Ints 2 w u (flPair b)) : Calls Tryz.prog 34 #[v, u] w (fun e w' => Ext w w' ∧ ∃ r : Bool, e = .returned (.bool r) ∧ (pairsOk a = true → pairsOk b = true → a = b → r = true)) := by
  have HA := Lib.hid ha; have HB := Lib.hid hb
  obtain ⟨s1, k1, rfl, hk1, hm1, hc1⟩ := ha.recs (f := DPair.ints) (fun _ => rfl) (by decide)
  obtain ⟨s2, k2, rfl, hk2, hm2, hc2⟩ := hb.recs (f := DPair.ints) (fun _ => rfl) (by decide)
  have H1 := Lib.hid hc1; have H2 := Lib.hid hc2
  clear hc1 hc2 ha hb
  unfold maxLen at hm1 hm2
  cases ho1 : pairsOk a
  · go_enter Tryz.func34, Tryz.ntmps34
    go_wp2_with fail
    refine (sPairsOk_c _ _ _ HA.out).mono ?_
    rintro e w1 ⟨rfl, hx1⟩
    rw [ho1]
    go_wp2_with fail
    go_ret
    exact ⟨hx1, _, rfl, fun h => by cases h⟩
  cases ho2 : pairsOk b
  · go_enter Tryz.func34, Tryz.ntmps34
    go_wp2_with fail
    refine (sPairsOk_c _ _ _ HA.out).mono ?_
    rintro e w1 ⟨rfl, hx1⟩
    rw [ho1]
    go_wp2_with fail
    refine (sPairsOk_c _ _ _ (HB.out.ext hx1)).mono ?_
    rintro e w2 ⟨rfl, hx2⟩
    rw [ho2]
    go_wp2_with fail
    go_ret
    exact ⟨hx1.trans hx2, _, rfl, fun _ h => by cases h⟩
  have hq : ∀ x y : Nat, (x : Int) ≠ (y : Int) → x ≠ y := fun x y h e => h (by rw [e])
  have HQ := Lib.hid hq
  clear hq
  by_cases hl : a.length = b.length
  rotate_left
  · have hl2 : ¬ ((a.length : Int) = (b.length : Int)) := by omega
    have hl3 : ((a.length : Int) == (b.length : Int)) = false := by simpa using hl2
    have HL := Lib.hid hl
    clear hl
    go_enter Tryz.func34, Tryz.ntmps34
    go_wp2_with fail
    refine (sPairsOk_c _ _ _ HA.out).mono ?_
    rintro e w1 ⟨rfl, hx1⟩
    rw [ho1]
    go_wp2_with fail
    refine (sPairsOk_c _ _ _ (HB.out.ext hx1)).mono ?_
    rintro e w2 ⟨rfl, hx2⟩
    rw [ho2]
    go_wp2_with fail
    go_ret
    exact ⟨hx1.trans hx2, _, rfl, fun _ _ h => absurd (congrArg List.length h) HL.out⟩
  obtain ⟨L, hL⟩ : ∃ L, L = b.length := ⟨_, rfl⟩
  rw [← hL] at hl hk2 H2
  rw [← hL]
  have HLB := Lib.hid hL
  clear hL
  rw [hl] at hk1 H1 ⊢
  have HLA := Lib.hid hl
  clear hl
  go_enter Tryz.func34, Tryz.ntmps34
  go_wp2_with fail
  refine (sPairsOk_c _ (.slice s1 L k1) a (by rw [← HLA.out]; have := HA.out; rwa [HLA.out] at this ⊢)).mono ?_
  rintro e w1 ⟨rfl, hx1⟩
  rw [ho1]
  go_wp2_with fail
  refine (sPairsOk_c _ (.slice s2 L k2) b (by have := HB.out.ext hx1; rwa [← HLB.out] at this)).mono ?_
  rintro e w2 ⟨rfl, hx2⟩
  rw [ho2]
  have E2 := hx1.trans hx2
  clear hx1 hx2 ho1 ho2
  go_wp2_with fail
  go_loopw [5] (fun i wr => ∃ k : Nat, k ≤ L ∧ i = .int .i64 k ∧ Ext w wr ∧ Hid (∀ j, j < k → a[j]? = b[j]?)) (fun i _ => L - (intOf i).toNat)
  case atStart => exact ⟨0, Nat.zero_le _, rfl, E2, Lib.hid (fun i hi => by omega)⟩
  case round =>
    obtain ⟨k, hk, rfl, he, HO⟩ := hrel
    obtain ⟨wo, hw⟩ : ∃ wo, wo = wr := ⟨_, rfl⟩
    subst hw
    by_cases hlt : k < L
    · have hltI : (k : Int) < (L : Int) := by omega
      obtain ⟨d, b1, o1, hd, rfl, hb1, hc⟩ := H1.out k (by first | exact hlt | (rw [HLA.out]; exact hlt))
      have x0 := he.cell (hc 0 _ (by decide) rfl); have x1 := he.cell (hc 1 _ (by decide) rfl)
      obtain ⟨d2, b2, o2, hd2, rfl, hb2, hc2⟩ := H2.out k hlt
      have y0 := he.cell (hc2 0 _ (by decide) rfl); have y1 := he.cell (hc2 1 _ (by decide) rfl)
      simp only [Nat.add_zero] at x0 y0
      have HD := Lib.hid hd; have HD2 := Lib.hid hd2
      clear hc hc2 hd hd2
      by_cases hq : d.Key = d2.Key ∧ d.Value = d2.Value
      · have e : d = d2 := by cases d; cases d2; simp_all
        subst e
        clear hq
        go_wp2_with fail
        go_quiet (fail)
        go_wp2_with fail
        go_roundw
        case rel => exact ⟨k + 1, by omega, by go_num, by repeat' (first | (with_reducible exact Ext.refl _) | (with_reducible assumption) | (with_reducible refine Ext.drewN ?_ _) | (with_reducible refine Ext.drew ?_) | (with_reducible refine Ext.alloc ?_ _) | (with_reducible refine Ext.setCell ?_ ?_ _) | (with_reducible refine Ext.setRow ?_ ?_ _) | (with_reducible exact Nat.le_refl _) | (with_reducible refine Ext.trans ?_ (by assumption)) | omega), Lib.hid (fun j hj => by rcases Nat.lt_succ_iff_lt_or_eq.1 hj with h | h; exact HO.out j h; (subst h; rw [HD.out, HD2.out]))⟩
        case measure => simp [intOf]; omega
      · have hne : ¬ (a = b) := fun h => hq (by have h1 := HD.out; have h2 := HD2.out; rw [h] at h1; rw [h1] at h2; injection h2 with h2; subst h2; simp)
        have HNE := Lib.hid hne
        clear hne
        by_cases e0 : d.Key = d2.Key
        rotate_left
        · have f0 : (d.Key == d2.Key) = false := by simpa using e0
          go_wp2_with fail
          go_quiet (fail)
          go_wp2_with fail
          go_ret
          exact ⟨by repeat' (first | (with_reducible exact Ext.refl _) | (with_reducible assumption) | (with_reducible refine Ext.drewN ?_ _) | (with_reducible refine Ext.drew ?_) | (with_reducible refine Ext.alloc ?_ _) | (with_reducible refine Ext.setCell ?_ ?_ _) | (with_reducible refine Ext.setRow ?_ ?_ _) | (with_reducible exact Nat.le_refl _) | (with_reducible refine Ext.trans ?_ (by assumption)) | omega), _, rfl, fun _ _ h => absurd h HNE.out⟩
        rw [← e0] at y0
        by_cases e1 : d.Value = d2.Value
        rotate_left
        · have f1 : (d.Value == d2.Value) = false := by simpa using e1
          go_wp2_with fail
          go_quiet (fail)
          go_wp2_with fail
          go_ret
          exact ⟨by repeat' (first | (with_reducible exact Ext.refl _) | (with_reducible assumption) | (with_reducible refine Ext.drewN ?_ _) | (with_reducible refine Ext.drew ?_) | (with_reducible refine Ext.alloc ?_ _) | (with_reducible refine Ext.setCell ?_ ?_ _) | (with_reducible refine Ext.setRow ?_ ?_ _) | (with_reducible exact Nat.le_refl _) | (with_reducible refine Ext.trans ?_ (by assumption)) | omega), _, rfl, fun _ _ h => absurd h HNE.out⟩
        rw [← e1] at y1
        exact absurd ⟨e0, e1⟩ hq
    · obtain rfl : k = L := by omega
      go_wp2_with fail
      go_ret
      exact ⟨he, _, rfl, fun _ _ _ => rfl⟩
set_option maxHeartbeats 4000000 in
set_option maxRecDepth 100000 in
theorem sSameJobs_c {w : World} {v u : Value} {a b : List DJob} (ha : Ints 5 w v (flJob a)) (hb : Ints 5 w u (flJob b)) : Calls Tryz.prog 35 #[v, u] w (fun e w' => Ext w w' ∧ ∃ r : Bool, e = .returned (.bool r) ∧ (jobsOk a = true → jobsOk b = true → a = b → r = true)) := by
  have HA := Lib.hid ha; have HB := Lib.hid hb
  obtain ⟨s1, k1, rfl, hk1, hm1, hc1⟩ := ha.recs (f := DJob.ints) (fun _ => rfl) (by decide)
  obtain ⟨s2, k2, rfl, hk2, hm2, hc2⟩ := hb.recs (f := DJob.ints) (fun _ => rfl) (by decide)
  have H1 := Lib.hid hc1; have H2 := Lib.hid hc2
  clear hc1 hc2 ha hb
  unfold maxLen at hm1 hm2
  cases ho1 : jobsOk a
  · go_enter Tryz.func35, Tryz.ntmps35
    go_wp2_with fail
    refine (sJobsOk_c _ _ _ HA.out).mono ?_
    rintro e w1 ⟨rfl, hx1⟩
    rw [ho1]
    go_wp2_with fail
    go_ret
    exact ⟨hx1, _, rfl, fun h => by cases h⟩
  cases ho2 : jobsOk b
  · go_enter Tryz.func35, Tryz.ntmps35
    go_wp2_with fail
    refine (sJobsOk_c _ _ _ HA.out).mono ?_
    rintro e w1 ⟨rfl, hx1⟩
    rw [ho1]
    go_wp2_with fail
    refine (sJobsOk_c _ _ _ (HB.out.ext hx1)).mono ?_
    rintro e w2 ⟨rfl, hx2⟩
    rw [ho2]
    go_wp2_with fail
    go_ret
    exact ⟨hx1.trans hx2, _, rfl, fun _ h => by cases h⟩
  have hq : ∀ x y : Nat, (x : Int) ≠ (y : Int) → x ≠ y := fun x y h e => h (by rw [e])
  have HQ := Lib.hid hq
  clear hq
  by_cases hl : a.length = b.length
  rotate_left
  · have hl2 : ¬ ((a.length : Int) = (b.length : Int)) := by omega
    have hl3 : ((a.length : Int) == (b.length : Int)) = false := by simpa using hl2
    have HL := Lib.hid hl
    clear hl
    go_enter Tryz.func35, Tryz.ntmps35
    go_wp2_with fail
    refine (sJobsOk_c _ _ _ HA.out).mono ?_
    rintro e w1 ⟨rfl, hx1⟩
    rw [ho1]
    go_wp2_with fail
    refine (sJobsOk_c _ _ _ (HB.out.ext hx1)).mono ?_
    rintro e w2 ⟨rfl, hx2⟩
    rw [ho2]
    go_wp2_with fail
    go_ret
    exact ⟨hx1.trans hx2, _, rfl, fun _ _ h => absurd (congrArg List.length h) HL.out⟩
  obtain ⟨L, hL⟩ : ∃ L, L = b.length := ⟨_, rfl⟩
  rw [← hL] at hl hk2 H2
  rw [← hL]
  have HLB := Lib.hid hL
  clear hL
  rw [hl] at hk1 H1 ⊢
  have HLA := Lib.hid hl
  clear hl
  go_enter Tryz.func35, Tryz.ntmps35
  go_wp2_with fail
  refine (sJobsOk_c _ (.slice s1 L k1) a (by rw [← HLA.out]; have := HA.out; rwa [HLA.out] at this ⊢)).mono ?_
  rintro e w1 ⟨rfl, hx1⟩
  rw [ho1]
  go_wp2_with fail
  refine (sJobsOk_c _ (.slice s2 L k2) b (by have := HB.out.ext hx1; rwa [← HLB.out] at this)).mono ?_
  rintro e w2 ⟨rfl, hx2⟩
  rw [ho2]
  have E2 := hx1.trans hx2
  clear hx1 hx2 ho1 ho2
  go_wp2_with fail
  go_loopw [5] (fun i wr => ∃ k : Nat, k ≤ L ∧ i = .int .i64 k ∧ Ext w wr ∧ Hid (∀ j, j < k → a[j]? = b[j]?)) (fun i _ => L - (intOf i).toNat)
  case atStart => exact ⟨0, Nat.zero_le _, rfl, E2, Lib.hid (fun i hi => by omega)⟩
  case round =>
    obtain ⟨k, hk, rfl, he, HO⟩ := hrel
    obtain ⟨wo, hw⟩ : ∃ wo, wo = wr := ⟨_, rfl⟩
    subst hw
    by_cases hlt : k < L
    · have hltI : (k : Int) < (L : Int) := by omega
      obtain ⟨d, b1, o1, hd, rfl, hb1, hc⟩ := H1.out k (by first | exact hlt | (rw [HLA.out]; exact hlt))
      have x0 := he.cell (hc 0 _ (by decide) rfl); have x1 := he.cell (hc 1 _ (by decide) rfl); have x2 := he.cell (hc 2 _ (by decide) rfl); have x3 := he.cell (hc 3 _ (by decide) rfl); have x4 := he.cell (hc 4 _ (by decide) rfl)
      obtain ⟨d2, b2, o2, hd2, rfl, hb2, hc2⟩ := H2.out k hlt
      have y0 := he.cell (hc2 0 _ (by decide) rfl); have y1 := he.cell (hc2 1 _ (by decide) rfl); have y2 := he.cell (hc2 2 _ (by decide) rfl); have y3 := he.cell (hc2 3 _ (by decide) rfl); have y4 := he.cell (hc2 4 _ (by decide) rfl)
      simp only [Nat.add_zero] at x0 y0
      have HD := Lib.hid hd; have HD2 := Lib.hid hd2
      clear hc hc2 hd hd2
      by_cases hq : d.Id = d2.Id ∧ d.Due = d2.Due ∧ d.Key = d2.Key ∧ d.Value = d2.Value ∧ d.Fired = d2.Fired
      · have e : d = d2 := by cases d; cases d2; simp_all
        subst e
        clear hq
        go_wp2_with fail
        go_quiet (fail)
        go_wp2_with fail
        go_roundw
        case rel => exact ⟨k + 1, by omega, by go_num, by repeat' (first | (with_reducible exact Ext.refl _) | (with_reducible assumption) | (with_reducible refine Ext.drewN ?_ _) | (with_reducible refine Ext.drew ?_) | (with_reducible refine Ext.alloc ?_ _) | (with_reducible refine Ext.setCell ?_ ?_ _) | (with_reducible refine Ext.setRow ?_ ?_ _) | (with_reducible exact Nat.le_refl _) | (with_reducible refine Ext.trans ?_ (by assumption)) | omega), Lib.hid (fun j hj => by rcases Nat.lt_succ_iff_lt_or_eq.1 hj with h | h; exact HO.out j h; (subst h; rw [HD.out, HD2.out]))⟩
        case measure => simp [intOf]; omega
      · have hne : ¬ (a = b) := fun h => hq (by have h1 := HD.out; have h2 := HD2.out; rw [h] at h1; rw [h1] at h2; injection h2 with h2; subst h2; simp)
        have HNE := Lib.hid hne
        clear hne
        by_cases e0 : d.Id = d2.Id
        rotate_left
        · have f0 : (d.Id == d2.Id) = false := by simpa using e0
          go_wp2_with fail
          go_quiet (fail)
          go_wp2_with fail
          go_ret
          exact ⟨by repeat' (first | (with_reducible exact Ext.refl _) | (with_reducible assumption) | (with_reducible refine Ext.drewN ?_ _) | (with_reducible refine Ext.drew ?_) | (with_reducible refine Ext.alloc ?_ _) | (with_reducible refine Ext.setCell ?_ ?_ _) | (with_reducible refine Ext.setRow ?_ ?_ _) | (with_reducible exact Nat.le_refl _) | (with_reducible refine Ext.trans ?_ (by assumption)) | omega), _, rfl, fun _ _ h => absurd h HNE.out⟩
        rw [← e0] at y0
        by_cases e1 : d.Due = d2.Due
        rotate_left
        · have f1 : (d.Due == d2.Due) = false := by simpa using e1
          go_wp2_with fail
          go_quiet (fail)
          go_wp2_with fail
          go_ret
          exact ⟨by repeat' (first | (with_reducible exact Ext.refl _) | (with_reducible assumption) | (with_reducible refine Ext.drewN ?_ _) | (with_reducible refine Ext.drew ?_) | (with_reducible refine Ext.alloc ?_ _) | (with_reducible refine Ext.setCell ?_ ?_ _) | (with_reducible refine Ext.setRow ?_ ?_ _) | (with_reducible exact Nat.le_refl _) | (with_reducible refine Ext.trans ?_ (by assumption)) | omega), _, rfl, fun _ _ h => absurd h HNE.out⟩
        rw [← e1] at y1
        by_cases e2 : d.Key = d2.Key
        rotate_left
        · have f2 : (d.Key == d2.Key) = false := by simpa using e2
          go_wp2_with fail
          go_quiet (fail)
          go_wp2_with fail
          go_ret
          exact ⟨by repeat' (first | (with_reducible exact Ext.refl _) | (with_reducible assumption) | (with_reducible refine Ext.drewN ?_ _) | (with_reducible refine Ext.drew ?_) | (with_reducible refine Ext.alloc ?_ _) | (with_reducible refine Ext.setCell ?_ ?_ _) | (with_reducible refine Ext.setRow ?_ ?_ _) | (with_reducible exact Nat.le_refl _) | (with_reducible refine Ext.trans ?_ (by assumption)) | omega), _, rfl, fun _ _ h => absurd h HNE.out⟩
        rw [← e2] at y2
        by_cases e3 : d.Value = d2.Value
        rotate_left
        · have f3 : (d.Value == d2.Value) = false := by simpa using e3
          go_wp2_with fail
          go_quiet (fail)
          go_wp2_with fail
          go_ret
          exact ⟨by repeat' (first | (with_reducible exact Ext.refl _) | (with_reducible assumption) | (with_reducible refine Ext.drewN ?_ _) | (with_reducible refine Ext.drew ?_) | (with_reducible refine Ext.alloc ?_ _) | (with_reducible refine Ext.setCell ?_ ?_ _) | (with_reducible refine Ext.setRow ?_ ?_ _) | (with_reducible exact Nat.le_refl _) | (with_reducible refine Ext.trans ?_ (by assumption)) | omega), _, rfl, fun _ _ h => absurd h HNE.out⟩
        rw [← e3] at y3
        by_cases e4 : d.Fired = d2.Fired
        rotate_left
        · have f4 : (d.Fired == d2.Fired) = false := by simpa using e4
          go_wp2_with fail
          go_quiet (fail)
          go_wp2_with fail
          go_ret
          exact ⟨by repeat' (first | (with_reducible exact Ext.refl _) | (with_reducible assumption) | (with_reducible refine Ext.drewN ?_ _) | (with_reducible refine Ext.drew ?_) | (with_reducible refine Ext.alloc ?_ _) | (with_reducible refine Ext.setCell ?_ ?_ _) | (with_reducible refine Ext.setRow ?_ ?_ _) | (with_reducible exact Nat.le_refl _) | (with_reducible refine Ext.trans ?_ (by assumption)) | omega), _, rfl, fun _ _ h => absurd h HNE.out⟩
        rw [← e4] at y4
        exact absurd ⟨e0, e1, e2, e3, e4⟩ hq
    · obtain rfl : k = L := by omega
      go_wp2_with fail
      go_ret
      exact ⟨he, _, rfl, fun _ _ _ => rfl⟩
set_option maxHeartbeats 4000000 in
set_option maxRecDepth 100000 in
theorem sSameState_k {w : World} {v u : Value} {s : DState} (h : RdState w v s) (k : RdState w u s) (hs : stateOk s = true) : Calls Tryz.prog 27 #[v, u] w (RetV w (.bool true)) := by
  have H := Lib.hid h; have HK := Lib.hid k
  have hp := (stateOk_parts hs).2.2.2.1; have hj := (stateOk_parts hs).2.2.2.2.1
  have HS := Lib.hid hs; have HP := Lib.hid hp; have HJ := Lib.hid hj
  clear hs hp hj
  obtain ⟨t2, t3, rfl, h2, h3⟩ := h
  obtain ⟨a2x, n2x, k2x, rfl⟩ := h2.shape
  obtain ⟨a3x, n3x, k3x, rfl⟩ := h3.shape
  obtain ⟨u2, u3, rfl, g2, g3⟩ := k
  obtain ⟨a2y, n2y, k2y, rfl⟩ := g2.shape
  obtain ⟨a3y, n3y, k3y, rfl⟩ := g3.shape
  have H2 := Lib.hid h2; have H3 := Lib.hid h3; have G2 := Lib.hid g2; have G3 := Lib.hid g3
  clear h2 h3 g2 g3
  obtain ⟨w0, hw0⟩ : ∃ w0, w0 = (w.alloc (.cells #[.int .i64 s.Index, .int .i64 s.Time, .slice a2x n2x k2x, .slice a3x n3x k3x, .int .i64 s.Lease.Holder, .int .i64 s.Lease.Epoch, .int .i64 s.Lease.Until] 46)).alloc (.cells #[.int .i64 s.Index, .int .i64 s.Time, .slice a2y n2y k2y, .slice a3y n3y k3y, .int .i64 s.Lease.Holder, .int .i64 s.Lease.Epoch, .int .i64 s.Lease.Until] 46) := ⟨_, rfl⟩
  have E0 : Ext w w0 := by rw [hw0]; exact ((Ext.refl _).alloc _).alloc _
  have KX0 : Blk w0 w.heap.size 46 #[.int .i64 s.Index, .int .i64 s.Time, .slice a2x n2x k2x, .slice a3x n3x k3x, .int .i64 s.Lease.Holder, .int .i64 s.Lease.Epoch, .int .i64 s.Lease.Until] := by rw [hw0]; exact (Blk.new _ _ _).alloc _
  have KY0 : Blk w0 (w.heap.size + 1) 46 #[.int .i64 s.Index, .int .i64 s.Time, .slice a2y n2y k2y, .slice a3y n3y k3y, .int .i64 s.Lease.Holder, .int .i64 s.Lease.Epoch, .int .i64 s.Lease.Until] := by rw [hw0]; exact Blk.new2 _ _ _ _
  have HW := Lib.hid hw0
  clear hw0
  have CX0 := KX0.cell; have FX0 := KX0.frozen; have LX0 := KX0.lt; have CY0 := KY0.cell; have FY0 := KY0.frozen; have LY0 := KY0.lt
  go_enter Tryz.func27, Tryz.ntmps27
  go_wp2_with fail
  rw [← HW.out]
  go_wp2_with fail
  refine (sStateOk_k (H.out.ext E0)).mono ?_
  rintro e w1 ⟨rfl, hx1⟩
  have KX1 := KX0.ext hx1; have KY1 := KY0.ext hx1
  have E1 : Ext w w1 := E0.trans hx1
  clear CX0 FX0 LX0 CY0 FY0 LY0 KX0 KY0
  have CX1 := KX1.cell; have FX1 := KX1.frozen; have LX1 := KX1.lt; have CY1 := KY1.cell; have FY1 := KY1.frozen; have LY1 := KY1.lt
  rw [HS.out]
  go_wp2_with fail
  refine (sStateOk_k (HK.out.ext E1)).mono ?_
  rintro e w2 ⟨rfl, hx2⟩
  have KX2 := KX1.ext hx2; have KY2 := KY1.ext hx2
  have E2 : Ext w w2 := E1.trans hx2
  clear CX1 FX1 LX1 CY1 FY1 LY1 KX1 KY1
  have CX2 := KX2.cell; have FX2 := KX2.frozen; have LX2 := KX2.lt; have CY2 := KY2.cell; have FY2 := KY2.frozen; have LY2 := KY2.lt
  rw [HS.out]
  go_wp2_with fail
  refine (sSamePairs_c (H2.out.ext E2) (G2.out.ext E2)).mono ?_
  rintro e w3 ⟨hx3, r, rfl, hr⟩
  have KX3 := KX2.ext hx3; have KY3 := KY2.ext hx3
  have E3 : Ext w w3 := E2.trans hx3
  clear CX2 FX2 LX2 CY2 FY2 LY2 KX2 KY2
  have CX3 := KX3.cell; have FX3 := KX3.frozen; have LX3 := KX3.lt; have CY3 := KY3.cell; have FY3 := KY3.frozen; have LY3 := KY3.lt
  obtain rfl := hr HP.out HP.out rfl
  clear hr
  go_wp2_with fail
  refine (sSameJobs_c (H3.out.ext E3) (G3.out.ext E3)).mono ?_
  rintro e w4 ⟨hx4, r, rfl, hr⟩
  have KX4 := KX3.ext hx4; have KY4 := KY3.ext hx4
  have E4 : Ext w w4 := E3.trans hx4
  clear CX3 FX3 LX3 CY3 FY3 LY3 KX3 KY3
  have CX4 := KX4.cell; have FX4 := KX4.frozen; have LX4 := KX4.lt; have CY4 := KY4.cell; have FY4 := KY4.frozen; have LY4 := KY4.lt
  obtain rfl := hr HJ.out HJ.out rfl
  clear hr
  go_wp2_with fail
  go_ret
  exact ⟨rfl, E4⟩

end Go.Proofs.YtohoemphmghblaaGreat

-- The row that a sort leaves.
set_option linter.unusedSimpArgs false
set_option linter.unusedVariables false
namespace Go.Proofs.YtohoemphmghblaaGreat
open Go.RowKit Go.G8

end Go.Proofs.YtohoemphmghblaaGreat
namespace Go.G8
open Go.RowKit
open Go.Proofs.YtohoemphmghblaaGreat
open Go.Sort
theorem flat_due (q : List DDue) (t : Nat) (h : t < q.length * 2) : (Go.Sort.flatK encD 2 q.toArray)[t]? = ((dues q).map (Value.int .i64))[t]? := by
  have hsz : (Go.Sort.flatK encD 2 q.toArray).size = q.length * 2 := by rw [Go.Sort.size_flatK]; simp
  have hd : t / 2 < q.length := Nat.div_lt_of_lt_mul (by omega)
  have hg := flat_get DDue.ints (n := 2) (fun _ => rfl) q (t / 2) (t % 2) q[t / 2] (List.getElem?_eq_getElem hd) (Nat.mod_lt _ (by decide))
  have he : t / 2 * 2 + t % 2 = t := by omega
  rw [he] at hg
  rw [List.getElem?_map, show (dues q)[t]? = _ from hg]
  have h1 : (Go.Sort.flatK encD 2 q.toArray)[t]? = some ((Go.Sort.flatK encD 2 q.toArray)[t]!) := by
    rw [getElem!_pos _ t (by omega)]; exact Array.getElem?_eq_getElem (by omega)
  rw [h1, Go.Sort.get_flatK encD 2 q.toArray t (by simpa using h)]
  have h2 : q.toArray[t / 2]! = q[t / 2] := by rw [getElem!_pos _ _ (by simpa using hd)]; simp
  rw [h2]
  have hm : t % 2 = 0 ∨ t % 2 = 1 := by omega
  rcases hm with hm | hm <;> rw [hm] <;> rfl
theorem blk_sorted {w : World} {X : Nat} {t : TypeId} {cur : Array Value} (h : Blk w X t cur) (F : Array Value) (m : Nat) (os : Array Obj) : Blk (grow (putRow id (Go.Sort.ahead w m) X 0 F) os) X t (putCells id 0 F cur) := by
  have hl := h.lt
  unfold Blk at h ⊢
  show ((w.heap.modify X (onCells (putCells id 0 F))) ++ os)[X]? = _
  rw [Array.getElem?_append_left (by simpa using hl), Array.getElem?_modify, if_pos rfl, h]
  rfl
theorem upd_sorted {w : World} {X : Nat} (F : Array Value) (m : Nat) (os : Array Obj) : Upd w (grow (putRow id (Go.Sort.ahead w m) X 0 F) os) [X] := by
  refine ⟨rfl, rfl, rfl, ?_, fun k hk hn => ?_⟩
  · show w.heap.size ≤ ((w.heap.modify X (onCells (putCells id 0 F))) ++ os).size
    simp
  · show ((w.heap.modify X (onCells (putCells id 0 F))) ++ os)[k]? = _
    have hne : ¬ X = k := fun e => hn (by simp [e])
    rw [Array.getElem?_append_left (by simpa using hk), Array.getElem?_modify, if_neg hne]
theorem holds_due {w : World} {X : Nat} {t : TypeId} {cur : Array Value} {q : List DDue} (h : Blk w X t cur) (hp : Pre cur (q.length * 2) ((dues q).map (Value.int .i64))) : Go.Sort.HoldsK encD 2 w X 0 q.toArray := by
  intro j hj
  have hj2 : j < q.length * 2 := by rw [Go.Sort.size_flatK] at hj; simpa using hj
  refine ⟨?_, h.frozen _⟩
  rw [h.cell, Nat.zero_add, hp j hj2, ← flat_due q j hj2]
  rw [getElem!_pos _ j hj]
  exact Array.getElem?_eq_getElem hj
theorem own_sorted {w : World} {B X cap : Nat} {t : TypeId} {cur : Array Value} {q q' : List DDue} (h : Blk w X t cur) (hB : B ≤ X) (hs : cur.size = cap * 2) (hc : q.length ≤ cap) (hm : cap ≤ maxLen) (hl : q'.length = q.length) (m : Nat) (os : Array Obj) :
    OwnI B t 2 (Go.Proofs.sortWorldK encD 2 w X 0 m q'.toArray os) (.slice (some ⟨X, 0, none⟩) q.length cap) (dues q') := by
  refine Own.of_blk (cur := putCells id 0 (Go.Sort.flatK encD 2 q'.toArray) cur) (blk_sorted h _ _ _) hB (by simp [putCells, hs]) (by simp [length_dues, hl]) hc hm (fun j hj => ?_)
  have hj2 : j < q'.length * 2 := by omega
  have hF : (Go.Sort.flatK encD 2 q'.toArray).size = q'.length * 2 := by rw [Go.Sort.size_flatK]; simp
  have hjc : j < cur.size := by rw [hs]; have := Nat.mul_le_mul_right 2 hc; omega
  rw [← flat_due q' j hj2]
  unfold putCells
  rw [Array.getElem?_mapIdx, Array.getElem?_eq_getElem hjc]
  simp only [Option.map_some, Nat.zero_le, true_and, Nat.zero_add, Nat.sub_zero, hF, hj2, if_true, id_eq]
  rw [getElem!_pos _ j (by omega)]
  exact (Array.getElem?_eq_getElem (by omega)).symm
end Go.G8
namespace Go.Proofs.YtohoemphmghblaaGreat
open Go.RowKit Go.G8

end Go.Proofs.YtohoemphmghblaaGreat

-- The contract of slices.SortFunc and bits.Len laid at this seat (printed by the kit).
namespace Go.Proofs
open Go.Shelf
def Tryz.sortDue_ren : Go.Shelf.Ren := ⟨fun | 6 => 104 | 15 => 190 | 14 => 189 | 28 => 265 | 29 => 266 | 20 => 257 | 21 => 258 | 22 => 259 | 23 => 260 | 24 => 261 | 25 => 262 | 26 => 263 | 27 => 264 | 46 => 295 | 47 => 296 | 48 => 297 | 49 => 298 | 50 => 299 | 57 => 314 | n => n, fun | 22 => 89 | 24 => 156 | 25 => 160 | 3 => 3 | 39 => 223 | 0 => 0 | 53 => 273 | 55 => 275 | 4 => 4 | 46 => 266 | 45 => 265 | 50 => 270 | 5 => 5 | 9 => 9 | 66 => 290 | 70 => 294 | 76 => 302 | 77 => 303 | n => n, fun | n => n⟩
theorem Tryz.sortDue : Go.Proofs.SlLaysF0.n6 Tryz.prog Tryz.sortDue_ren := {
  mixed := by kernel_rfl
  f6 := ⟨Tryz.f104.name, by decide, Tryz.func104.trans (congrArg some (by kernel_rfl))⟩
  f14 := ⟨Tryz.f189.name, by decide, Tryz.func189.trans (congrArg some (by kernel_rfl))⟩
  f15 := Tryz.func190.trans (congrArg some (by kernel_rfl))
  f20 := ⟨Tryz.f257.name, by decide, Tryz.func257.trans (congrArg some (by kernel_rfl))⟩
  f21 := ⟨Tryz.f258.name, by decide, Tryz.func258.trans (congrArg some (by kernel_rfl))⟩
  f22 := ⟨Tryz.f259.name, by decide, Tryz.func259.trans (congrArg some (by kernel_rfl))⟩
  f23 := ⟨Tryz.f260.name, by decide, Tryz.func260.trans (congrArg some (by kernel_rfl))⟩
  f24 := ⟨Tryz.f261.name, by decide, Tryz.func261.trans (congrArg some (by kernel_rfl))⟩
  f25 := ⟨Tryz.f262.name, by decide, Tryz.func262.trans (congrArg some (by kernel_rfl))⟩
  f26 := ⟨Tryz.f263.name, by decide, Tryz.func263.trans (congrArg some (by kernel_rfl))⟩
  f27 := ⟨Tryz.f264.name, by decide, Tryz.func264.trans (congrArg some (by kernel_rfl))⟩
  f28 := Tryz.func265.trans (congrArg some (by kernel_rfl))
  f29 := Tryz.func266.trans (congrArg some (by kernel_rfl))
  f46 := ⟨Tryz.f295.name, by decide, Tryz.func295.trans (congrArg some (by kernel_rfl))⟩
  f47 := Tryz.func296.trans (congrArg some (by kernel_rfl))
  f48 := Tryz.func297.trans (congrArg some (by kernel_rfl))
  f49 := ⟨Tryz.f298.name, by decide, Tryz.func298.trans (congrArg some (by kernel_rfl))⟩
  f50 := ⟨Tryz.f299.name, by decide, Tryz.func299.trans (congrArg some (by kernel_rfl))⟩
  f57 := ⟨Tryz.f314.name, by decide, Tryz.func314.trans (congrArg some (by kernel_rfl))⟩
  t0 := Tryz.underlying0
  a0 := Tryz.isAgg0
  z0 := Tryz.sizeOf0
  v0 := Tryz.zeroValue0
  t3 := Tryz.underlying3
  a3 := Tryz.isAgg3
  z3 := Tryz.sizeOf3
  v3 := Tryz.zeroValue3
  t4 := Tryz.underlying4
  a4 := Tryz.isAgg4
  z4 := Tryz.sizeOf4
  v4 := Tryz.zeroValue4
  t5 := Tryz.underlying5
  a5 := Tryz.isAgg5
  z5 := Tryz.sizeOf5
  v5 := Tryz.zeroValue5
  t9 := Tryz.underlying9
  a9 := Tryz.isAgg9
  z9 := Tryz.sizeOf9
  v9 := Tryz.zeroValue9
  t22 := Tryz.underlying89
  a22 := Tryz.isAgg89
  z22 := Tryz.sizeOf89
  v22 := Tryz.zeroValue89
  t25 := Tryz.underlying160
  a25 := Tryz.isAgg160
  z25 := Tryz.sizeOf160
  v25 := Tryz.zeroValue160
  t39 := Tryz.underlying223
  a39 := Tryz.isAgg223
  z39 := Tryz.sizeOf223
  v39 := Tryz.zeroValue223
  t45 := Tryz.underlying265
  a45 := Tryz.isAgg265
  z45 := Tryz.sizeOf265
  v45 := Tryz.zeroValue265
  t46 := Tryz.underlying266
  a46 := Tryz.isAgg266
  z46 := Tryz.sizeOf266
  v46 := Tryz.zeroValue266
  t50 := Tryz.underlying270
  a50 := Tryz.isAgg270
  z50 := Tryz.sizeOf270
  v50 := Tryz.zeroValue270
  t53 := Tryz.underlying273
  a53 := Tryz.isAgg273
  z53 := Tryz.sizeOf273
  v53 := Tryz.zeroValue273
  t55 := Tryz.underlying275
  a55 := Tryz.isAgg275
  z55 := Tryz.sizeOf275
  v55 := Tryz.zeroValue275
  t66 := Tryz.underlying290
  a66 := Tryz.isAgg290
  z66 := Tryz.sizeOf290
  v66 := Tryz.zeroValue290
  t70 := Tryz.underlying294
  a70 := Tryz.isAgg294
  z70 := Tryz.sizeOf294
  v70 := Tryz.zeroValue294
  t76 := Tryz.underlying302
  a76 := Tryz.isAgg302
  z76 := Tryz.sizeOf302
  v76 := Tryz.zeroValue302
  t77 := Tryz.underlying303
  a77 := Tryz.isAgg303
  z77 := Tryz.sizeOf303
  v77 := Tryz.zeroValue303 }
def Tryz.bitsLen_ren : Go.Shelf.Ren := ⟨fun | 125 => 190 | 128 => 265 | 129 => 266 | n => n, fun | 46 => 223 | 3 => 3 | 51 => 273 | 53 => 275 | 4 => 4 | 5 => 5 | 9 => 9 | n => n, fun | n => n⟩
theorem Tryz.bitsLen : Go.Proofs.Lays.n125 Tryz.prog Tryz.bitsLen_ren := {
  mixed := by kernel_rfl
  f125 := Tryz.func190.trans (congrArg some (by kernel_rfl))
  f128 := Tryz.func265.trans (congrArg some (by kernel_rfl))
  f129 := Tryz.func266.trans (congrArg some (by kernel_rfl))
  t3 := Tryz.underlying3
  a3 := Tryz.isAgg3
  z3 := Tryz.sizeOf3
  v3 := Tryz.zeroValue3
  t4 := Tryz.underlying4
  a4 := Tryz.isAgg4
  z4 := Tryz.sizeOf4
  v4 := Tryz.zeroValue4
  t5 := Tryz.underlying5
  a5 := Tryz.isAgg5
  z5 := Tryz.sizeOf5
  v5 := Tryz.zeroValue5
  t9 := Tryz.underlying9
  a9 := Tryz.isAgg9
  z9 := Tryz.sizeOf9
  v9 := Tryz.zeroValue9
  t46 := Tryz.underlying223
  a46 := Tryz.isAgg223
  z46 := Tryz.sizeOf223
  v46 := Tryz.zeroValue223
  t51 := Tryz.underlying273
  a51 := Tryz.isAgg273
  z51 := Tryz.sizeOf273
  v51 := Tryz.zeroValue273
  t53 := Tryz.underlying275
  a53 := Tryz.isAgg275
  z53 := Tryz.sizeOf275
  v53 := Tryz.zeroValue275 }
end Go.Proofs

-- OpenJobs of the program.
set_option linter.unusedSimpArgs false
set_option linter.unusedVariables false
namespace Go.Proofs.YtohoemphmghblaaGreat
open Go.RowKit Go.G8 Go.Shelf Go.Lib Go.Sort

end Go.Proofs.YtohoemphmghblaaGreat
namespace Go.G8
open Go.RowKit
open Go.Proofs.YtohoemphmghblaaGreat
theorem own_blk {B : Nat} {t : TypeId} {w : World} {X n cap : Nat} {q : List DDue} (h : OwnI B t 2 w (.slice (some ⟨X, 0, none⟩) n cap) (dues q)) :
    ∃ cur, n = q.length ∧ B ≤ X ∧ Blk w X t cur ∧ q.length ≤ cap ∧ cap ≤ maxLen ∧ cur.size = cap * 2 ∧ Pre cur (q.length * 2) ((dues q).map (Value.int .i64)) := by
  obtain ⟨len, h0, ⟨h1, _⟩ | ⟨g, cap', cur, hv, hb, hg, h1, h2, h3, h4⟩⟩ := h
  · cases h1
  · injection hv with e1 e2 e3
    injection e1 with e1
    injection e1 with e1
    subst e1; subst e2; subst e3
    have hl : n = q.length := by simp only [List.length_map, length_dues] at h0; omega
    subst hl
    refine ⟨cur, rfl, hb, hg, h1, h2, h3, fun j hj => ?_⟩
    rw [← h4, List.getElem?_take, if_pos hj, Array.getElem?_toList]
theorem filt_snoc {l : List DJob} {k : Nat} {d : DJob} (hd : l[k]? = some d) (h : d.Fired = 0) : (l.take (k + 1)).filter (fun j => decide (j.Fired = 0)) = (l.take k).filter (fun j => decide (j.Fired = 0)) ++ [d] := by
  rw [take_snoc hd, List.filter_append]; simp [h]
theorem filt_skip {l : List DJob} {k : Nat} {d : DJob} (hd : l[k]? = some d) (h : ¬ d.Fired = 0) : (l.take (k + 1)).filter (fun j => decide (j.Fired = 0)) = (l.take k).filter (fun j => decide (j.Fired = 0)) := by
  rw [take_snoc hd, List.filter_append]; simp [h]
theorem Ext.grownOwn2 {a w w' : World} {B : Nat} {e : TypeId} {n : Nat} {v : Value} {xs : List Int} (h : Ext a w) (ho : OwnI B e n w v xs) (hg : w.grownBy w' v.ownBlock) (hB : a.heap.size ≤ B) : Ext a w' :=
  (Upd.app (h.upd []) ho (.inr hB) hg).below (by simp) (Nat.le_refl _)
def dueOf (j : DJob) : DDue := ⟨j.Id, j.Due⟩
theorem map_snoc {l : List DJob} {k : Nat} {d : DJob} (hd : l[k]? = some d) : (l.take (k + 1)).map dueOf = (l.take k).map dueOf ++ [⟨d.Id, d.Due⟩] := by
  rw [take_snoc hd, List.map_append]; rfl
theorem dues_one (l : List DDue) (d : DDue) : dues (l ++ [d]) = dues l ++ [d.Id, d.Due] := by simp [dues, DDue.ints]
end Go.G8
namespace Go.Proofs.YtohoemphmghblaaGreat
open Go.RowKit Go.G8
set_option maxHeartbeats 4000000 in
set_option maxRecDepth 100000 in
theorem chosen_c {w : World} {v : Value} {l : List DJob} (h : Ints 5 w v (flJob l)) (hl : l.length ≤ 8) : Calls Tryz.prog 102 #[v, .func (.func 103) #[] #[]] w (Ret w fun r w' => OwnI w.heap.size 142 5 w' r (flJob (l.filter (fun j => decide (j.Fired = 0))))) := by
  obtain ⟨i0, hi, hy0, hy1, hy2⟩ := info_parts info_Job
  obtain ⟨a, cap, rfl, hcap, hm, ha⟩ := h.recs (f := DJob.ints) (fun _ => rfl) (by decide)
  have HA := Lib.hid ha
  clear ha h
  unfold maxLen at hm
  go_enter Tryz.func102, Tryz.ntmps102
  go_wp2_with fail
  go_loopw [5, 11] (fun out i wr => ∃ (k : Nat) (q : List DJob), k ≤ l.length ∧ i = .int .i64 k ∧ Ext w wr ∧ OwnI w.heap.size 142 5 wr out (flJob q) ∧ q.length ≤ k ∧ Hid (q = (l.take k).filter (fun j => decide (j.Fired = 0)))) (fun _ i _ => l.length - (intOf i).toNat)
  case atStart => exact ⟨0, [], Nat.zero_le _, rfl, (Ext.refl _).alloc _, OwnI.lit0 w _ _, Nat.le_refl _, Lib.hid (by simp)⟩
  case round =>
    obtain ⟨k, q, hk, rfl, he, hown, hq, HQ⟩ := hrel
    obtain ⟨a0, n0, c0, rfl⟩ := hown.shape
    obtain ⟨w0, hw⟩ : ∃ w0, w0 = wr := ⟨_, rfl⟩
    subst hw
    have hsz := he.size
    by_cases hlt : k < l.length
    · obtain ⟨d, b1, o1, hd, rfl, hb1, hc⟩ := HA.out k hlt
      have x0 := he.cell (hc 0 _ (by decide) rfl); have x1 := he.cell (hc 1 _ (by decide) rfl); have x2 := he.cell (hc 2 _ (by decide) rfl); have x3 := he.cell (hc 3 _ (by decide) rfl); have x4 := he.cell (hc 4 _ (by decide) rfl)
      simp only [Nat.add_zero] at x0
      have HD := Lib.hid hd
      clear hc hd
      have hltI : (k : Int) < (l.length : Int) := by omega
      by_cases hf : d.Fired = 0
      · have HF := Lib.hid hf
        have hdd : decide ((⟨d.Id, d.Due, d.Key, d.Value, d.Fired⟩ : DJob).Fired = 0) = true := by simp [hf]
        clear hf
        go_wp2_with fail
        refine (open_e _ _ _ _ _ _).mono ?_
        rintro e w1 ⟨rfl, hx1⟩
        rw [hdd]
        have KB1 : Blk w1 w0.heap.size 142 #[.int .i64 d.Id, .int .i64 d.Due, .int .i64 d.Key, .int .i64 d.Value, .int .i64 d.Fired] := (Blk.new _ _ _).ext hx1
        have E1 : Ext w0 w1 := ((Ext.refl _).alloc _).trans hx1
        have CB1 := KB1.cell; have FB1 := KB1.frozen; have LB1 := KB1.lt
        have hz1 := E1.size
        clear hx1 x0 x1 x2 x3 x4
        have OO : OwnI w.heap.size 142 5 (w1.alloc (.cells #[.int .i64 d.Id, .int .i64 d.Due, .int .i64 d.Key, .int .i64 d.Value, .int .i64 d.Fired] 142)) (.slice a0 n0 c0) (flJob q) := OwnI.ext1 (OwnI.ext1 hown E1) ((Ext.refl _).alloc _)
        go_wp2_with (first | (at_builtin; go_loud (refine wp_appendU rfl _ _ 43 rfl 142 i0 _ 5 40 Tryz.underlying43 hi hy0 hy1 hy2 rfl (by decide) w.heap.size _ _ rfl OO _ [d.Id, d.Due, d.Key, d.Value, d.Fired] rfl (Sl.oneAt _ #[.int .i64 d.Id, .int .i64 d.Due, .int .i64 d.Key, .int .i64 d.Value, .int .i64 d.Fired] _ 5 _ (by first | rfl | simp) rfl) 1000 (by simp only [length_flJob, List.length_cons, List.length_nil]; omega) (by omega) (by omega) (by simp only [World.size_alloc]; omega) ?_; rotate_right; intro vv w2 On h3)))
        go_roundw
        case rel => exact ⟨k + 1, q ++ [d], by omega, by go_num, Ext.grownOwn2 ((he.trans E1).alloc _) OO h3 (Nat.le_refl _), by (rw [flJob_one]; exact On), by simp; omega, Lib.hid (by rw [filt_snoc HD.out HF.out, ← HQ.out])⟩
        case measure => simp [intOf]; omega
      · have HF := Lib.hid hf
        have hdd : decide ((⟨d.Id, d.Due, d.Key, d.Value, d.Fired⟩ : DJob).Fired = 0) = false := by simp [hf]
        clear hf
        go_wp2_with fail
        refine (open_e _ _ _ _ _ _).mono ?_
        rintro e w1 ⟨rfl, hx1⟩
        rw [hdd]
        have E1 : Ext w0 w1 := ((Ext.refl _).alloc _).trans hx1
        clear hx1 x0 x1 x2 x3 x4
        go_wp2_with fail
        go_roundw
        case rel => exact ⟨k + 1, q, by omega, by go_num, he.trans E1, OwnI.ext1 hown E1, by omega, Lib.hid (by rw [filt_skip HD.out HF.out, ← HQ.out])⟩
        case measure => simp [intOf]; omega
    · obtain rfl : k = l.length := by omega
      go_wp2_with fail
      go_ret
      have e := HQ.out
      rw [List.take_length] at e
      exact ⟨_, rfl, he, by rw [← e]; exact hown⟩
theorem due_lays (X n : Nat) (w : World) : CmpLays Tryz.prog 105 #[] encD 2 cmpD X 0 n w := fun _ _ _ _ x y => dueCmp_c _ x y
theorem due_len (n : Nat) (W : World) (h : n ≤ 12) : Calls Tryz.prog 190 #[.int .u64 n] W fun e w' => (∃ l : Int, e = .returned (.int .i64 l)) ∧ w' = W :=
  (Any.bits_Len Tryz.bitsLen n W (by omega) (by omega)).mono fun _ _ ⟨he, hw⟩ => ⟨⟨_, he⟩, hw⟩
theorem sortDue_c {w : World} {B X n cap : Nat} {l : List DJob} (hj : jobsOk l = true) (hO : OwnI B 156 2 w (.slice (some ⟨X, 0, none⟩) n cap) (dues (opens l))) :
    Calls Tryz.prog 104 #[.slice (some ⟨X, 0, none⟩) n cap, .func (.func 105) #[] #[]] w (fun e w' => e = .returned (.tuple #[]) ∧ Upd w w' [X] ∧ OwnI B 156 2 w' (.slice (some ⟨X, 0, none⟩) n cap) (dues (openD l))) := by
  obtain ⟨cur, rfl, hB, hb, h1, h2, h3, h4⟩ := own_blk hO
  have h8 : (opens l).length ≤ 8 := Nat.le_trans (opens_len l) (jobsOk_len hj)
  have eg : ∀ args w, (callFunc 105 args).run Tryz.prog w = .ok (.enter 105 args) w := enters_of Tryz.func105 (by kernel_rfl) rfl
  have hcon := AnyQ.slices_SortFunc_small Tryz.sortDue 2 Tryz.isAgg156 Tryz.sizeOf156 encD (fun _ => rfl) (fun x v hv => by simp [encD] at hv; rcases hv with rfl | rfl <;> rfl) cmpD 105 #[] X 0 cap (opens l).toArray w eg (due_lays X _ w) (holds_due hb h4) hb.lt (by simp; omega) due_len
  change Calls Tryz.prog 104 _ _ _ at hcon
  have hs : (opens l).toArray.size = (opens l).length := by simp
  rw [hs] at hcon
  refine hcon.mono ?_
  rintro e w' ⟨rfl, m, os, rfl⟩
  have e1 : Go.Sort.insertionSort (ltOf cmpD) (opens l).toArray 0 (opens l).length = (openD l).toArray := by
    have := sort_open hj
    rw [hs] at this
    rw [← this]
  rw [e1]
  exact ⟨rfl, upd_sorted _ _ _, own_sorted hb hB h3 h1 h2 (openD_sorted hj).2.length_eq _ _⟩
set_option maxHeartbeats 4000000 in
set_option maxRecDepth 100000 in
theorem openJobs_c {w : World} {v : Value} {l : List DJob} (h : Ints 5 w v (flJob l)) : Calls Tryz.prog 37 #[v] w (Ret w fun r w' => OwnI w.heap.size 156 2 w' r (dues (openD l))) := by
  obtain ⟨i0, hi, hy0, hy1, hy2⟩ := info_parts info_Due
  have HV := Lib.hid h
  clear h
  cases hj : jobsOk l
  · have HM := Lib.hid (show openD l = [] from by simp [openD, hj])
    go_enter Tryz.func37, Tryz.ntmps37
    go_wp2_with fail
    refine (jobsOk_c _ _ _ HV.out).mono ?_
    rintro e w1 ⟨rfl, hx1⟩
    rw [hj]
    go_wp2_with fail
    go_ret
    exact ⟨_, rfl, hx1, by rw [HM.out]; exact OwnI.nil _ _ _ _⟩
  have h8 := jobsOk_len hj
  have HJ := Lib.hid hj
  go_enter Tryz.func37, Tryz.ntmps37
  go_wp2_with fail
  refine (jobsOk_c _ _ _ HV.out).mono ?_
  rintro e w1 ⟨rfl, hx1⟩
  rw [hj]
  clear hj
  have hz1 := hx1.size
  go_wp2_with fail
  refine (chosen_c (HV.out.ext (hx1.trans ((Ext.refl _).alloc _))) h8).mono ?_
  rintro e w2 ⟨_, rfl, hx2, hf⟩
  obtain ⟨f, hff⟩ : ∃ f, f = l.filter (fun j => decide (j.Fired = 0)) := ⟨_, rfl⟩
  have hfl : f.length ≤ 8 := by rw [hff]; exact Nat.le_trans (List.length_filter_le _ _) h8
  rw [← hff] at hf
  have HFF := Lib.hid hff
  clear hff
  have hz2 := hx2.size; (try simp only [World.size_alloc] at hz2)
  have E2 : Ext w w2 := hx1.trans (((Ext.refl _).alloc _).trans hx2)
  have O2 : OwnI w.heap.size 156 2 w2 (.slice (some ⟨w1.heap.size, 0, none⟩) 0 0) (dues []) := (OwnI.ext1 (OwnI.lit0 w1 156 2) hx2).mono hz1
  clear hx1 hx2
  obtain ⟨a, cap, rfl, hcap, hm, ha⟩ := hf.ints.recs (f := DJob.ints) (fun _ => rfl) (by decide)
  clear ha
  unfold maxLen at hm
  go_wp2_with fail
  go_loopw [3, 13] (fun out i wr => ∃ (k : Nat) (q : List DDue) (X n c : Nat), k ≤ f.length ∧ i = .int .i64 k ∧ Ext w wr ∧ OwnI w.heap.size 142 5 wr (.slice a f.length cap) (flJob f) ∧ out = .slice (some ⟨X, 0, none⟩) n c ∧ OwnI w.heap.size 156 2 wr (.slice (some ⟨X, 0, none⟩) n c) (dues q) ∧ q.length = k ∧ Hid (q = (f.take k).map dueOf)) (fun _ i _ => f.length - (intOf i).toNat)
  case atStart => exact ⟨0, [], _, _, _, Nat.zero_le _, rfl, E2, hf.mono (by simp only [World.size_alloc]; omega), rfl, O2, rfl, Lib.hid (by simp)⟩
  case round =>
    clear hf
    obtain ⟨k, q, X, n, c, hk, rfl, he, hfo, rfl, hown, hq, HQ⟩ := hrel
    obtain ⟨w0, hw⟩ : ∃ w0, w0 = wr := ⟨_, rfl⟩
    subst hw
    have hsz := he.size
    by_cases hlt : k < f.length
    · obtain ⟨_, _, hev, _, _, ha⟩ := hfo.ints.recs (f := DJob.ints) (fun _ => rfl) (by decide)
      injection hev with he1 he2 he3
      subst he1; subst he3
      obtain ⟨d, b1, o1, hd, rfl, hb1, hc⟩ := ha k hlt
      have x0 := hc 0 _ (by decide) rfl; have x1 := hc 1 _ (by decide) rfl; have x2 := hc 2 _ (by decide) rfl; have x3 := hc 3 _ (by decide) rfl; have x4 := hc 4 _ (by decide) rfl
      simp only [Nat.add_zero] at x0
      have HD := Lib.hid hd
      clear hc hd ha he2
      have hltI : (k : Int) < (f.length : Int) := by omega
      have OO : OwnI w.heap.size 156 2 ((w0.alloc (.cells #[.int .i64 d.Id, .int .i64 d.Due, .int .i64 d.Key, .int .i64 d.Value, .int .i64 d.Fired] 142)).alloc (.cells #[.int .i64 d.Id, .int .i64 d.Due] 156)) (.slice (some ⟨X, 0, none⟩) n c) (dues q) := OwnI.ext1 hown (((Ext.refl _).alloc _).alloc _)
      go_wp2_with (first | (at_builtin; go_loud (refine wp_appendU rfl _ _ 89 rfl 156 i0 _ 2 16 Tryz.underlying89 hi hy0 hy1 hy2 rfl (by decide) w.heap.size _ _ rfl OO _ [d.Id, d.Due] rfl (Sl.oneAt _ #[.int .i64 d.Id, .int .i64 d.Due] _ 2 _ (by first | rfl | simp) rfl) 1000 (by simp only [length_dues, List.length_cons, List.length_nil]; omega) (by omega) (by omega) (by simp only [World.size_alloc]; omega) ?_; rotate_right; intro vv w4 On h3)))
      have On2 : OwnI w.heap.size 156 2 w4 vv (dues (q ++ [⟨d.Id, d.Due⟩])) := by rw [dues_one]; exact On
      obtain ⟨ta, tn, tc, rfl, htl, _, _, hor⟩ := Own.open_ On2
      have htn : tn ≠ 0 := by simp [length_dues] at htl; omega
      rcases hor with h0 | ⟨X2, cur, rfl, _⟩
      · exact absurd h0 htn
      go_roundw
      case rel => exact ⟨k + 1, q ++ [⟨d.Id, d.Due⟩], _, _, _, by omega, by go_num, Ext.grownOwn2 (Ext.trans he (((Ext.refl _).alloc _).alloc _)) OO h3 (Nat.le_refl _), OwnI.app (OwnI.ext1 hfo (((Ext.refl _).alloc _).alloc _)) OO (by decide) h3, rfl, On2, by simp; omega, Lib.hid (by rw [map_snoc HD.out, ← HQ.out])⟩
      case measure => simp [intOf]; omega
    · obtain rfl : k = f.length := by omega
      have hqo : q = opens l := by
        have e := HQ.out
        rw [List.take_length, HFF.out] at e
        exact e
      subst hqo
      go_wp2_with fail
      refine (sortDue_c HJ.out hown).mono ?_
      rintro e w5 ⟨rfl, U5, O5⟩
      go_wp2_with fail
      go_ret
      exact ⟨_, rfl, he.upd_below U5 (fun x hx => by have := hown.foot X (by simp [feet, Value.ownBlock]); simp at hx; omega), O5⟩

end Go.Proofs.YtohoemphmghblaaGreat
