/- Numbers that are read as a state: the plain law. -/
import Derived.Test.YtemhbbpbmgpcaaaShM
set_option linter.unusedSimpArgs false
set_option linter.unusedVariables false
namespace Go.G8
open Go.RowKit Go.Proofs.Ytemhbbpbmgpcaaa

/-- At p stand a count and so many pairs. -/
def okP (L : List Int) (p : Nat) (l : List DPair) : Prop := L[p]? = some (l.length : Int) ∧ l.length ≤ 10 ∧ (L.drop (p + 1)).take (2 * l.length) = flPair l
def okJ (L : List Int) (p : Nat) (l : List DJob) : Prop := L[p]? = some (l.length : Int) ∧ l.length ≤ 8 ∧ (L.drop (p + 1)).take (5 * l.length) = flJob l
theorem okP_len {L : List Int} {p : Nat} {l : List DPair} (h : okP L p l) : p + 1 + 2 * l.length ≤ L.length := by
  have h1 := congrArg List.length h.2.2
  have h2 := (List.getElem?_eq_some_iff.1 h.1).1
  rw [length_flPair, List.length_take, List.length_drop] at h1
  omega
theorem okJ_len {L : List Int} {p : Nat} {l : List DJob} (h : okJ L p l) : p + 1 + 5 * l.length ≤ L.length := by
  have h1 := congrArg List.length h.2.2
  have h2 := (List.getElem?_eq_some_iff.1 h.1).1
  rw [length_flJob, List.length_take, List.length_drop] at h1
  omega
theorem okP_uniq {L : List Int} {p : Nat} {l l' : List DPair} (h : okP L p l) (k : okP L p l') : l = l' := by
  have h1 := h.1; have k1 := k.1
  rw [h1] at k1
  have hl : l.length = l'.length := by have := Option.some.inj k1; omega
  have h2 := h.2.2; have k2 := k.2.2
  rw [hl, k2] at h2
  exact (flPair_inj _ _ h2).symm
theorem okJ_uniq {L : List Int} {p : Nat} {l l' : List DJob} (h : okJ L p l) (k : okJ L p l') : l = l' := by
  have h1 := h.1; have k1 := k.1
  rw [h1] at k1
  have hl : l.length = l'.length := by have := Option.some.inj k1; omega
  have h2 := h.2.2; have k2 := k.2.2
  rw [hl, k2] at h2
  exact (flJob_inj _ _ h2).symm
/-- So many numbers are so many records. -/
theorem pairs_of (xs : List Int) (n : Nat) (h : xs.length = 2 * n) : ∃ l : List DPair, l.length = n ∧ flPair l = xs := by
  induction n generalizing xs with
  | zero => exact ⟨[], rfl, by simp [flPair]; exact List.eq_nil_of_length_eq_zero (by omega)⟩
  | succ n ih =>
    match xs, h with
    | a :: b :: t, h =>
      obtain ⟨l, h1, h2⟩ := ih t (by simp at h; omega)
      exact ⟨⟨a, b⟩ :: l, by simp [h1], by simp [flPair, DPair.ints] at h2 ⊢; exact h2⟩
    | [a], h => simp at h; omega
    | [], h => simp at h
theorem jobs_of (xs : List Int) (n : Nat) (h : xs.length = 5 * n) : ∃ l : List DJob, l.length = n ∧ flJob l = xs := by
  induction n generalizing xs with
  | zero => exact ⟨[], rfl, by simp [flJob]; exact List.eq_nil_of_length_eq_zero (by omega)⟩
  | succ n ih =>
    match xs, h with
    | a :: b :: c :: d :: e :: t, h =>
      obtain ⟨l, h1, h2⟩ := ih t (by simp at h; omega)
      exact ⟨⟨a, b, c, d, e⟩ :: l, by simp [h1], by simp [flJob, DJob.ints] at h2 ⊢; exact h2⟩
    | [a, b, c, d], h => simp at h; omega
    | [a, b, c], h => simp at h; omega
    | [a, b], h => simp at h; omega
    | [a], h => simp at h; omega
    | [], h => simp at h
theorem okP_of {L : List Int} {p n : Nat} (h0 : L[p]? = some (n : Int)) (h1 : n ≤ 10) (h2 : p + 1 + 2 * n ≤ L.length) : ∃ l, okP L p l ∧ l.length = n := by
  obtain ⟨l, h3, h4⟩ := pairs_of ((L.drop (p + 1)).take (2 * n)) n (by rw [List.length_take, List.length_drop]; omega)
  exact ⟨l, ⟨by rw [h3]; exact h0, by omega, by rw [h3]; exact h4.symm⟩, h3⟩
theorem okJ_of {L : List Int} {p n : Nat} (h0 : L[p]? = some (n : Int)) (h1 : n ≤ 8) (h2 : p + 1 + 5 * n ≤ L.length) : ∃ l, okJ L p l ∧ l.length = n := by
  obtain ⟨l, h3, h4⟩ := jobs_of ((L.drop (p + 1)).take (5 * n)) n (by rw [List.length_take, List.length_drop]; omega)
  exact ⟨l, ⟨by rw [h3]; exact h0, by omega, by rw [h3]; exact h4.symm⟩, h3⟩
/-- The numbers L are those of the valid state s. -/
def parsed (L : List Int) (s : DState) : Prop := stateOk s = true ∧ stateNums s = L
theorem parsed_uniq {L : List Int} {s t : DState} (h : parsed L s) (k : parsed L t) : s = t := stateNums_inj (h.2.trans k.2.symm)
theorem nums_split (s : DState) : stateNums s = s.Index :: s.Time :: ((s.Pairs.length : Int) :: (flPair s.Pairs ++ ((s.Jobs.length : Int) :: (flJob s.Jobs ++ [s.Lease.Holder, s.Lease.Epoch, s.Lease.Until])))) := by simp [stateNums]
/-- What stands where in the numbers of a valid state. -/
theorem parsed_at {L : List Int} {s : DState} (h : parsed L s) : L.length = 7 + 2 * s.Pairs.length + 5 * s.Jobs.length ∧ okP L 2 s.Pairs ∧ okJ L (3 + 2 * s.Pairs.length) s.Jobs ∧ L[0]? = some s.Index ∧ L[1]? = some s.Time ∧
    (L.drop (4 + 2 * s.Pairs.length + 5 * s.Jobs.length)) = [s.Lease.Holder, s.Lease.Epoch, s.Lease.Until] := by
  obtain ⟨hok, rfl⟩ := h
  obtain ⟨hl1, hl2⟩ := stateOk_lens hok
  have hp := length_flPair s.Pairs
  have hj := length_flJob s.Jobs
  refine ⟨stateNums_len s, ⟨?_, hl1, ?_⟩, ⟨?_, hl2, ?_⟩, ?_, ?_, ?_⟩
  · rw [nums_split]; rfl
  · rw [nums_split]
    simp only [List.drop_succ_cons, List.drop_zero]
    rw [List.take_append_of_le_length (by omega), List.take_of_length_le (by omega)]
  · rw [nums_split, show 3 + 2 * s.Pairs.length = 2 * s.Pairs.length + 1 + 1 + 1 by omega]
    simp only [List.getElem?_cons_succ]
    rw [List.getElem?_append_right (by omega), show 2 * s.Pairs.length - (flPair s.Pairs).length = 0 by omega]
    rfl
  · rw [nums_split, show 3 + 2 * s.Pairs.length + 1 = (2 * s.Pairs.length + 1) + 1 + 1 + 1 by omega]
    simp only [List.drop_succ_cons]
    rw [List.drop_append, List.drop_of_length_le (by omega), show 2 * s.Pairs.length + 1 - (flPair s.Pairs).length = 1 by omega]
    simp only [List.nil_append, List.drop_succ_cons, List.drop_zero]
    rw [List.take_append_of_le_length (by omega), List.take_of_length_le (by omega)]
  · rw [nums_split]; rfl
  · rw [nums_split]; rfl
  · rw [nums_split, show 4 + 2 * s.Pairs.length + 5 * s.Jobs.length = (2 * s.Pairs.length + (5 * s.Jobs.length + 1)) + 1 + 1 + 1 by omega]
    simp only [List.drop_succ_cons]
    rw [List.drop_append, List.drop_of_length_le (by omega), show 2 * s.Pairs.length + (5 * s.Jobs.length + 1) - (flPair s.Pairs).length = 5 * s.Jobs.length + 1 by omega]
    simp only [List.nil_append, List.drop_succ_cons]
    rw [List.drop_append, List.drop_of_length_le (by omega), show 5 * s.Jobs.length - (flJob s.Jobs).length = 0 by omega]
    rfl
theorem drop_at {L : List Int} {p : Nat} {x : Int} (h : L[p]? = some x) : L.drop p = x :: L.drop (p + 1) := by
  obtain ⟨h1, h2⟩ := List.getElem?_eq_some_iff.1 h
  rw [← h2]; exact List.drop_eq_getElem_cons h1
/-- Pieced together. -/
theorem parsed_of {L : List Int} {i t h e u : Int} {ps : List DPair} {js : List DJob} (h0 : L[0]? = some i) (h1 : L[1]? = some t) (hp : okP L 2 ps) (hj : okJ L (3 + 2 * ps.length) js)
    (hd : L.drop (4 + 2 * ps.length + 5 * js.length) = [h, e, u]) : stateNums ⟨i, t, ps, js, ⟨h, e, u⟩⟩ = L := by
  have e0 : L = L.drop 0 := by simp
  rw [nums_split]
  simp only []
  have hq := hp.2.2; have hk := hj.2.2
  have a1 : L.drop 3 = flPair ps ++ L.drop (3 + 2 * ps.length) := by
    have := List.take_append_drop (2 * ps.length) (L.drop (2 + 1))
    rw [hq, List.drop_drop] at this
    rw [← this]
  have a2 : L.drop (3 + 2 * ps.length + 1) = flJob js ++ L.drop (4 + 2 * ps.length + 5 * js.length) := by
    have := List.take_append_drop (5 * js.length) (L.drop (3 + 2 * ps.length + 1))
    rw [hk, List.drop_drop] at this
    rw [← this]; congr 2; omega
  rw [← hd, ← a2, ← drop_at hj.1, ← a1]
  rw [← drop_at hp.1]
  rw [← drop_at (p := 1) h1, ← drop_at (p := 0) h0, List.drop_zero]
end Go.G8
