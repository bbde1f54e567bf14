/- Snapshots as rows: the plain law. -/
import Derived.Test.YtemhbbpbmgpcaaaNum
set_option linter.unusedSimpArgs false
set_option linter.unusedVariables false
namespace Go.G8
open Go.RowKit Go.Proofs.Ytemhbbpbmgpcaaa

/-- One row of a snapshot before its checksum. -/
def shotRow (s : DShot) (nums : List Int) (p : Nat) : List Int := [s.Num, s.State.Index, (p : Int), (nums.length : Int)] ++ (nums.drop (p * 20)).take 20 ++ [s.State.Index, s.Num]
def rowsTo (s : DShot) (nums : List Int) (k : Nat) : List (List Int) := (List.range k).map (fun p => withSum (shotRow s nums p))
def parts (n : Nat) : Nat := (n + 19) / 20
noncomputable def shotRows (s : DShot) : List (List Int) := if shotOk s then rowsTo s (stateNums s.State) (parts (stateNums s.State).length) else []

theorem rowsTo_succ (s : DShot) (nums : List Int) (k : Nat) : rowsTo s nums (k + 1) = rowsTo s nums k ++ [withSum (shotRow s nums k)] := by
  simp [rowsTo, List.range_succ]
theorem shotRow_len (s : DShot) (nums : List Int) (p : Nat) : (shotRow s nums p).length ≤ 26 := by
  have : ((nums.drop (p * 20)).take 20).length ≤ 20 := by simp; omega
  simp only [shotRow, List.length_append, List.length_cons, List.length_nil]
  omega
theorem stateNums_len (s : DState) : (stateNums s).length = 7 + 2 * s.Pairs.length + 5 * s.Jobs.length := by
  simp [stateNums, length_flPair, length_flJob]; omega
theorem stateNums_bound {s : DState} (h : stateOk s = true) : (stateNums s).length ≤ 67 := by
  obtain ⟨h1, h2⟩ := stateOk_lens h
  rw [stateNums_len]; omega
theorem withSum_len (l : List Int) : (withSum l).length ≤ l.length + 1 := by
  unfold withSum; split <;> simp
theorem nums_ok {s : DState} (h : stateOk s = true) : ∀ x, x ∈ stateNums s → 0 ≤ x ∧ x ≤ 1000000000 := by
  have hl := stateOk_lens h
  simp only [stateOk, Bool.and_eq_true] at h
  obtain ⟨hi, ht, hp, hj, hlz, hf⟩ := h
  have hi := inb_true.1 hi
  have ht := inb_true.1 ht
  have hp := pairsOk_iff.1 hp
  have hj := jobsOk_iff.1 hj
  intro x hx
  simp only [stateNums, List.mem_append, List.mem_cons, List.not_mem_nil, or_false] at hx
  rcases hx with (((rfl | rfl) | (rfl | hx)) | (rfl | hx)) | (rfl | rfl | rfl)
  · omega
  · omega
  · omega
  · simp only [flPair, List.mem_flatMap] at hx
    obtain ⟨d, hd, hx⟩ := hx
    obtain ⟨i, hi', rfl⟩ := List.mem_iff_getElem.1 hd
    have hk := (hp i hi' _ (List.getElem?_eq_getElem hi')).1
    simp only [pairOk, Bool.and_eq_true] at hk
    have h1 := inb_true.1 hk.1; have h2 := inb_true.1 hk.2
    simp only [DPair.ints, List.mem_cons, List.not_mem_nil, or_false] at hx
    rcases hx with rfl | rfl <;> omega
  · omega
  · simp only [flJob, List.mem_flatMap] at hx
    obtain ⟨d, hd, hx⟩ := hx
    obtain ⟨i, hi', rfl⟩ := List.mem_iff_getElem.1 hd
    have hk := (hj.2 i hi' _ (List.getElem?_eq_getElem hi')).1
    simp only [jobOk, Bool.and_eq_true, idOk, timeOk] at hk
    obtain ⟨h1, h2, h3, h4, h5⟩ := hk
    have h1 := inb_true.1 h1; have h2 := inb_true.1 h2; have h3 := inb_true.1 h3; have h4 := inb_true.1 h4; have h5 := inb_true.1 h5
    simp only [DJob.ints, List.mem_cons, List.not_mem_nil, or_false] at hx
    rcases hx with rfl | rfl | rfl | rfl | rfl <;> omega
  all_goals
    simp only [leaseOk, leaseZ, Bool.or_eq_true, Bool.and_eq_true, decide_eq_true_eq, schedOk] at hlz
    rcases hlz with ⟨h1, h2, h3⟩ | ⟨h1, h2, h3⟩
    · omega
    · have h2 := inb_true.1 h2; have h3 := inb_true.1 h3
      simp at h1
      omega
theorem stateOk_idx {s : DState} (h : stateOk s = true) : 0 ≤ s.Index ∧ s.Index ≤ 2000 := by
  simp only [stateOk, Bool.and_eq_true] at h
  exact inb_true.1 h.1
theorem shotOk_parts {s : DShot} (h : shotOk s = true) : 1 ≤ s.Num ∧ s.Num ≤ 1000000000 ∧ stateOk s.State = true ∧ 0 < s.State.Index ∧ s.State.Index ≤ 2000 := by
  simp only [shotOk, Bool.and_eq_true, decide_eq_true_eq] at h
  obtain ⟨h1, h2, h3⟩ := h
  have h1 := inb_true.1 h1
  exact ⟨h1.1, h1.2, h2, h3, (stateOk_idx h2).2⟩
theorem shotRow_ok {s : DShot} (h : shotOk s = true) {p : Nat} (hp : p ≤ 100) : rowOk (shotRow s (stateNums s.State) p) = true := by
  obtain ⟨h1, h2, h3, h4, h5⟩ := shotOk_parts h
  have hb := stateNums_bound h3
  have hl := shotRow_len s (stateNums s.State) p
  simp only [rowOk, Bool.and_eq_true, decide_eq_true_eq, List.all_eq_true]
  refine ⟨by omega, fun x hx => ?_⟩
  simp only [shotRow, List.mem_append, List.mem_cons, List.not_mem_nil, or_false] at hx
  apply inb_of
  all_goals
    rcases hx with (((rfl | rfl | rfl | rfl) | hx)) | (rfl | rfl)
    any_goals omega
    have := nums_ok h3 x (List.mem_of_mem_drop (List.mem_of_mem_take hx))
    omega
theorem withSum_shot {s : DShot} (h : shotOk s = true) {p : Nat} (hp : p ≤ 100) : withSum (shotRow s (stateNums s.State) p) = shotRow s (stateNums s.State) p ++ [sumOf (shotRow s (stateNums s.State) p)] := by
  have := shotRow_len s (stateNums s.State) p
  unfold withSum
  rw [shotRow_ok h hp]
  simp; omega

theorem flPair_inj : ∀ (l l' : List DPair), flPair l = flPair l' → l = l'
  | [], [], _ => rfl
  | [], y :: l', h => by simp [flPair, DPair.ints] at h
  | x :: l, [], h => by simp [flPair, DPair.ints] at h
  | x :: l, y :: l', h => by
    obtain ⟨x1, x2⟩ := x
    obtain ⟨y1, y2⟩ := y
    simp only [flPair, List.flatMap_cons, DPair.ints, List.cons_append, List.nil_append, List.cons.injEq] at h
    obtain ⟨h1, h2, h⟩ := h
    rw [flPair_inj l l' h, h1, h2]
theorem flJob_inj : ∀ (l l' : List DJob), flJob l = flJob l' → l = l'
  | [], [], _ => rfl
  | [], y :: l', h => by simp [flJob, DJob.ints] at h
  | x :: l, [], h => by simp [flJob, DJob.ints] at h
  | x :: l, y :: l', h => by
    obtain ⟨x1, x2, x3, x4, x5⟩ := x
    obtain ⟨y1, y2, y3, y4, y5⟩ := y
    simp only [flJob, List.flatMap_cons, DJob.ints, List.cons_append, List.nil_append, List.cons.injEq] at h
    obtain ⟨h1, h2, h3, h4, h5, h⟩ := h
    rw [flJob_inj l l' h, h1, h2, h3, h4, h5]
theorem stateNums_inj {s t : DState} (h : stateNums s = stateNums t) : s = t := by
  obtain ⟨i, m, ps, js, ⟨a, b, c⟩⟩ := s
  obtain ⟨i', m', ps', js', ⟨a', b', c'⟩⟩ := t
  simp only [stateNums, List.cons_append, List.nil_append, List.append_assoc, List.cons.injEq] at h
  obtain ⟨h1, h2, h3, h⟩ := h
  have hl : ps.length = ps'.length := by omega
  obtain ⟨h4, h⟩ := List.append_inj h (by rw [length_flPair, length_flPair, hl])
  simp only [List.cons.injEq] at h
  obtain ⟨h5, h⟩ := h
  have hl' : js.length = js'.length := by omega
  obtain ⟨h6, h⟩ := List.append_inj h (by rw [length_flJob, length_flJob, hl'])
  simp only [List.cons.injEq, and_true] at h
  obtain ⟨h7, h8, h9⟩ := h
  rw [flPair_inj _ _ h4, flJob_inj _ _ h6, h1, h2, h7, h8, h9]

/-- Which rows end with their checksum, and what stands between the two ends. -/
def unsumOk (r : List Int) : Bool := decide (0 < r.length) && (rowOk r && decide (r[r.length - 1]? = some (sumOf (r.take (r.length - 1)))))
def mid (r : List Int) : List Int := ((r.take (r.length - 1)).drop 4).take (r.length - 7)
def partOk (r : List Int) : Bool := unsumOk r && decide (7 ≤ r.length)
theorem sumOf_low (l : List Int) (h : ∀ x, x ∈ l → 0 ≤ x) : 0 ≤ sumOf l ∧ sumOf l < 999999937 := by
  have H : ∀ (l : List Int) (z : Int), 0 ≤ z → z < 999999937 → (∀ x, x ∈ l → 0 ≤ x) → 0 ≤ l.foldl sumStep z ∧ l.foldl sumStep z < 999999937 := by
    intro l
    induction l with
    | nil => intro z h0 h1 _; exact ⟨h0, h1⟩
    | cons x l ih =>
      intro z h0 h1 hx
      obtain ⟨h2, h3⟩ := sumStep_low h0 (hx x (by simp))
      exact ih _ h2 h3 (fun y hy => hx y (by simp [hy]))
  exact H l 7 (by decide) (by decide) h
theorem unsum_shot {s : DShot} (h : shotOk s = true) {p : Nat} (hp : p ≤ 100) :
    partOk (withSum (shotRow s (stateNums s.State) p)) = true ∧ mid (withSum (shotRow s (stateNums s.State) p)) = ((stateNums s.State).drop (p * 20)).take 20 := by
  rw [withSum_shot h hp]
  obtain ⟨r, hr⟩ : ∃ r, r = shotRow s (stateNums s.State) p := ⟨_, rfl⟩
  have hok := shotRow_ok h hp
  have hl := shotRow_len s (stateNums s.State) p
  have h6 : 6 ≤ (shotRow s (stateNums s.State) p).length := by simp only [shotRow, List.length_append, List.length_cons, List.length_nil]; omega
  have hx := (rowOk_len hok).2
  rw [← hr] at hok hl h6 hx ⊢
  obtain ⟨z0, z1⟩ := sumOf_low r (fun x hx' => (hx x hx').1)
  have hlen : (r ++ [sumOf r]).length = r.length + 1 := by simp
  have ht : (r ++ [sumOf r]).take r.length = r := by rw [List.take_append_of_le_length (Nat.le_refl _), List.take_length]
  constructor
  · simp only [partOk, unsumOk, hlen, Bool.and_eq_true, decide_eq_true_eq, Nat.add_sub_cancel, ht]
    refine ⟨⟨by omega, ?_, by simp⟩, by omega⟩
    simp only [rowOk, Bool.and_eq_true, decide_eq_true_eq, List.all_eq_true, hlen]
    refine ⟨by omega, fun x hx' => ?_⟩
    rcases List.mem_append.1 hx' with h' | h'
    · exact inb_of (hx x h').1 (hx x h').2
    · simp at h'; subst h'; exact inb_of z0 (by omega)
  · simp only [mid, hlen, Nat.add_sub_cancel, ht]
    subst hr
    have e : (shotRow s (stateNums s.State) p).length + 1 - 7 = (((stateNums s.State).drop (p * 20)).take 20).length := by
      simp only [shotRow, List.length_append, List.length_cons, List.length_nil]; omega
    rw [e]
    simp only [shotRow, List.cons_append, List.nil_append, List.drop_succ_cons, List.drop_zero]
    rw [List.take_append_of_le_length (Nat.le_refl _), List.take_length]
theorem chunks (l : List Int) (k : Nat) : (List.range k).flatMap (fun p => (l.drop (p * 20)).take 20) = l.take (k * 20) := by
  induction k with
  | zero => simp
  | succ k ih => rw [List.range_succ, List.flatMap_append, ih, Nat.add_mul, Nat.one_mul, List.take_add]; simp
theorem shotRows_len {s : DShot} (h : shotOk s = true) : (shotRows s).length = parts (stateNums s.State).length ∧ 1 ≤ (shotRows s).length ∧ (shotRows s).length ≤ 4 := by
  have hb := stateNums_bound (shotOk_parts h).2.2.1
  have hl := stateNums_len s.State
  have e : (shotRows s).length = parts (stateNums s.State).length := by simp [shotRows, h, rowsTo]
  rw [e]; unfold parts
  omega
theorem shotRows_at {s : DShot} (h : shotOk s = true) {p : Nat} (hp : p < (shotRows s).length) : (shotRows s)[p]? = some (withSum (shotRow s (stateNums s.State) p)) := by
  have hl := shotRows_len h
  rw [hl.1] at hp
  simp [shotRows, h, rowsTo, hp]
theorem shotRows_parse {s : DShot} (h : shotOk s = true) : (shotRows s).all partOk = true ∧ (shotRows s).flatMap mid = stateNums s.State := by
  have hl := shotRows_len h
  have hb := stateNums_bound (shotOk_parts h).2.2.1
  constructor
  · rw [List.all_eq_true]
    intro r hr
    obtain ⟨i, hi⟩ := List.mem_iff_getElem?.1 hr
    have hi' : i < (shotRows s).length := (List.getElem?_eq_some_iff.1 hi).1
    rw [shotRows_at h hi'] at hi
    rw [← Option.some.inj hi]
    exact (unsum_shot h (by omega)).1
  · have e : (shotRows s).flatMap mid = (List.range (parts (stateNums s.State).length)).flatMap (fun p => ((stateNums s.State).drop (p * 20)).take 20) := by
      rw [shotRows, if_pos h, rowsTo, List.flatMap_map]
      have H : ∀ l : List Nat, (∀ p, p ∈ l → p ≤ 100) → l.flatMap (fun p => mid (withSum (shotRow s (stateNums s.State) p))) = l.flatMap (fun p => ((stateNums s.State).drop (p * 20)).take 20) := by
        intro l
        induction l with
        | nil => intro _; rfl
        | cons x l ih => intro hx; rw [List.flatMap_cons, List.flatMap_cons, ih (fun p hp => hx p (by simp [hp])), (unsum_shot h (hx x (by simp))).2]
      refine H _ (fun p hp => ?_)
      have := List.mem_range.1 hp
      unfold parts at this
      omega
    rw [e, chunks, List.take_of_length_le]
    unfold parts; omega
/-- The first number of a snapshot's first row is its Num; its fourth tells how many rows there are. -/
theorem shotRows_first {s : DShot} (h : shotOk s = true) : ∃ r, (shotRows s)[0]? = some r ∧ r[0]? = some s.Num ∧ r[1]? = some s.State.Index ∧ r[3]? = some ((stateNums s.State).length : Int) ∧ 7 ≤ r.length := by
  have hl := shotRows_len h
  refine ⟨_, shotRows_at h (by omega), ?_⟩
  rw [withSum_shot h (by omega)]
  simp [shotRow]
/-- Both ends of each row bear the snapshot's numbers, and something stands between them. -/
theorem shotRows_ends {s : DShot} (h : shotOk s = true) {p : Nat} {r : List Int} (hr : (shotRows s)[p]? = some r) :
    8 ≤ r.length ∧ r[r.length - 2]? = r[0]? ∧ r[r.length - 3]? = r[1]? := by
  have hp : p < (shotRows s).length := (List.getElem?_eq_some_iff.1 hr).1
  have hl := shotRows_len h
  have hb := stateNums_bound (shotOk_parts h).2.2.1
  rw [shotRows_at h hp] at hr
  have hr := Option.some.inj hr
  rw [withSum_shot h (by omega)] at hr
  obtain ⟨m, hm⟩ : ∃ m, m = ((stateNums s.State).drop (p * 20)).take 20 := ⟨_, rfl⟩
  have hml : 1 ≤ m.length := by
    rw [hm]; simp only [List.length_take, List.length_drop]
    rw [hl.1] at hp; unfold parts at hp
    omega
  have hrr : r = [s.Num, s.State.Index, (p : Int), ((stateNums s.State).length : Int)] ++ m ++ [s.State.Index, s.Num, sumOf (shotRow s (stateNums s.State) p)] := by
    rw [← hr, hm]; simp [shotRow]
  have hrl : r.length = m.length + 7 := by rw [hrr]; simp
  refine ⟨by omega, ?_, ?_⟩
  · rw [hrl, hrr, List.getElem?_append_right (by simp)]
    simp [show m.length + 7 - 2 - (m.length + 4) = 1 by omega, show m.length + 7 - 2 - (m.length + 1 + 1 + 1 + 1) = 1 by omega]
  · rw [hrl, hrr, List.getElem?_append_right (by simp)]
    simp [show m.length + 7 - 3 - (m.length + 4) = 0 by omega, show m.length + 7 - 3 - (m.length + 1 + 1 + 1 + 1) = 0 by omega]
/-- A snapshot is what its rows say. -/
theorem shotRows_inj {s t : DShot} (h : shotOk s = true) (k : shotOk t = true) (e : shotRows s = shotRows t) : s = t := by
  have h1 := (shotRows_parse h).2; have h2 := (shotRows_parse k).2
  rw [e, h2] at h1
  have h3 := stateNums_inj h1
  obtain ⟨r, hr, h4, _⟩ := shotRows_first h
  obtain ⟨r', hr', h5, _⟩ := shotRows_first k
  rw [e, hr'] at hr
  have hr := Option.some.inj hr
  subst hr
  rw [h5] at h4
  obtain ⟨a, b⟩ := s
  obtain ⟨a', b'⟩ := t
  simp_all
end Go.G8
