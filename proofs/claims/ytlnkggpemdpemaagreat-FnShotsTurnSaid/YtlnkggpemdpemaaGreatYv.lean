/- Contracts and plain laws: ShM Un ShN Num3 P6 Sh1 SR. -/
import Derived.Test.YtlnkggpemdpemaaGreatYa
import Derived.Test.YtlnkggpemdpemaaGreatYf
import Derived.Test.YtlnkggpemdpemaaGreatYe
import Derived.Test.YtlnkggpemdpemaaGreatYd
set_option linter.unusedSimpArgs false
set_option linter.unusedVariables false
set_option maxHeartbeats 8000000
set_option maxRecDepth 100000
namespace Go.G8
open Go.RowKit Go.Proofs.YtlnkggpemdpemaaGreat
def shotRow (s : DShot) (nums : List Int) (p : Nat) : List Int := [s.Num, s.State.Index, (p : Int), (nums.length : Int)] ++ (nums.drop (p * 20)).take 20 ++ [s.State.Index, s.Num]
def rowsTo (s : DShot) (nums : List Int) (k : Nat) : List (List Int) := (List.range k).map (fun p => withSum (shotRow s nums p))
def parts (n : Nat) : Nat := (n + 19) / 20
noncomputable def shotRows (s : DShot) : List (List Int) := if shotOk s then rowsTo s (stateNums s.State) (parts (stateNums s.State).length) else []
theorem rowsTo_succ (s : DShot) (nums : List Int) (k : Nat) : rowsTo s nums (k + 1) = rowsTo s nums k ++ [withSum (shotRow s nums k)] := by
 simp [rowsTo, List.range_succ]
theorem shotRow_len (s : DShot) (nums : List Int) (p : Nat) : (shotRow s nums p).length ≤ 26 := by
 have : ((nums.drop (p * 20)).take 20).length ≤ 20 := by simp; omega
 simp only [shotRow, List.length_append, List.length_cons, List.length_nil]
 omega
theorem stateNums_len (s : DState) : (stateNums s).length = 7 + 2 * s.Pairs.length + 5 * s.Jobs.length := by
 simp [stateNums, length_flPair, length_flJob]; omega
theorem stateNums_bound {s : DState} (h : stateOk s = true) : (stateNums s).length ≤ 67 := by
 obtain ⟨h1, h2⟩ := stateOk_lens h
 rw [stateNums_len]; omega
theorem nums_ok {s : DState} (h : stateOk s = true) : ∀ x, x ∈ stateNums s → 0 ≤ x ∧ x ≤ 1000000000 := by
 have hl := stateOk_lens h
 simp only [stateOk, Bool.and_eq_true] at h
 obtain ⟨hi, ht, hp, hj, hlz, hf⟩ := h
 have hi := inb_true.1 hi
 have ht := inb_true.1 ht
 have hp := pairsOk_iff.1 hp
 have hj := jobsOk_iff.1 hj
 intro x hx
 simp only [stateNums, List.mem_append, List.mem_cons, List.not_mem_nil, or_false] at hx
 rcases hx with (((rfl | rfl) | (rfl | hx)) | (rfl | hx)) | (rfl | rfl | rfl)
 ·
  omega
 ·
  omega
 ·
  omega
 ·
  simp only [flPair, List.mem_flatMap] at hx
  obtain ⟨d, hd, hx⟩ := hx
  obtain ⟨i, hi', rfl⟩ := List.mem_iff_getElem.1 hd
  have hk := (hp i hi' _ (List.getElem?_eq_getElem hi')).1
  simp only [pairOk, Bool.and_eq_true] at hk
  have h1 := inb_true.1 hk.1; have h2 := inb_true.1 hk.2
  simp only [DPair.ints, List.mem_cons, List.not_mem_nil, or_false] at hx
  rcases hx with rfl | rfl <;> omega
 ·
  omega
 ·
  simp only [flJob, List.mem_flatMap] at hx
  obtain ⟨d, hd, hx⟩ := hx
  obtain ⟨i, hi', rfl⟩ := List.mem_iff_getElem.1 hd
  have hk := (hj.2 i hi' _ (List.getElem?_eq_getElem hi')).1
  simp only [jobOk, Bool.and_eq_true, idOk, timeOk] at hk
  obtain ⟨h1, h2, h3, h4, h5⟩ := hk
  have h1 := inb_true.1 h1; have h2 := inb_true.1 h2; have h3 := inb_true.1 h3; have h4 := inb_true.1 h4; have h5 := inb_true.1 h5
  simp only [DJob.ints, List.mem_cons, List.not_mem_nil, or_false] at hx
  rcases hx with rfl | rfl | rfl | rfl | rfl <;> omega
 all_goals
  simp only [leaseOk, leaseZ, Bool.or_eq_true, Bool.and_eq_true, decide_eq_true_eq, schedOk] at hlz
  rcases hlz with ⟨h1, h2, h3⟩ | ⟨h1, h2, h3⟩
  ·
   omega
  have h2 := inb_true.1 h2; have h3 := inb_true.1 h3
  simp at h1
  omega
theorem stateOk_idx {s : DState} (h : stateOk s = true) : 0 ≤ s.Index ∧ s.Index ≤ 2000 := by
 simp only [stateOk, Bool.and_eq_true] at h
 exact inb_true.1 h.1
theorem shotOk_parts {s : DShot} (h : shotOk s = true) : 1 ≤ s.Num ∧ s.Num ≤ 1000000000 ∧ stateOk s.State = true ∧ 0 < s.State.Index ∧ s.State.Index ≤ 2000 := by
 simp only [shotOk, Bool.and_eq_true, decide_eq_true_eq] at h
 obtain ⟨h1, h2, h3⟩ := h
 have h1 := inb_true.1 h1
 exact ⟨h1.1, h1.2, h2, h3, (stateOk_idx h2).2⟩
theorem shotRow_ok {s : DShot} (h : shotOk s = true) {p : Nat} (hp : p ≤ 100) : rowOk (shotRow s (stateNums s.State) p) = true := by
 obtain ⟨h1, h2, h3, h4, h5⟩ := shotOk_parts h
 have hb := stateNums_bound h3
 have hl := shotRow_len s (stateNums s.State) p
 simp only [rowOk, Bool.and_eq_true, decide_eq_true_eq, List.all_eq_true]
 refine ⟨by omega, fun x hx => ?_⟩
 simp only [shotRow, List.mem_append, List.mem_cons, List.not_mem_nil, or_false] at hx
 apply inb_of
 all_goals
  rcases hx with (((rfl | rfl | rfl | rfl) | hx)) | (rfl | rfl)
  any_goals omega
  have := nums_ok h3 x (List.mem_of_mem_drop (List.mem_of_mem_take hx))
  omega
theorem withSum_shot {s : DShot} (h : shotOk s = true) {p : Nat} (hp : p ≤ 100) : withSum (shotRow s (stateNums s.State) p) = shotRow s (stateNums s.State) p ++ [sumOf (shotRow s (stateNums s.State) p)] := by
 have := shotRow_len s (stateNums s.State) p
 unfold withSum
 rw [shotRow_ok h hp]
 simp; omega
theorem flPair_inj : ∀ (l l' : List DPair), flPair l = flPair l' → l = l'
 | [], [], _ => rfl
 | [], y :: l', h => by simp [flPair, DPair.ints] at h
 | x :: l, [], h => by simp [flPair, DPair.ints] at h
 | x :: l, y :: l', h => by
  obtain ⟨x1, x2⟩ := x
  obtain ⟨y1, y2⟩ := y
  simp only [flPair, List.flatMap_cons, DPair.ints, List.cons_append, List.nil_append, List.cons.injEq] at h
  obtain ⟨h1, h2, h⟩ := h
  rw [flPair_inj l l' h, h1, h2]
theorem flJob_inj : ∀ (l l' : List DJob), flJob l = flJob l' → l = l'
 | [], [], _ => rfl
 | [], y :: l', h => by simp [flJob, DJob.ints] at h
 | x :: l, [], h => by simp [flJob, DJob.ints] at h
 | x :: l, y :: l', h => by
  obtain ⟨x1, x2, x3, x4, x5⟩ := x
  obtain ⟨y1, y2, y3, y4, y5⟩ := y
  simp only [flJob, List.flatMap_cons, DJob.ints, List.cons_append, List.nil_append, List.cons.injEq] at h
  obtain ⟨h1, h2, h3, h4, h5, h⟩ := h
  rw [flJob_inj l l' h, h1, h2, h3, h4, h5]
theorem stateNums_inj {s t : DState} (h : stateNums s = stateNums t) : s = t := by
 obtain ⟨i, m, ps, js, ⟨a, b, c⟩⟩ := s
 obtain ⟨i', m', ps', js', ⟨a', b', c'⟩⟩ := t
 simp only [stateNums, List.cons_append, List.nil_append, List.append_assoc, List.cons.injEq] at h
 obtain ⟨h1, h2, h3, h⟩ := h
 have hl : ps.length = ps'.length := by omega
 obtain ⟨h4, h⟩ := List.append_inj h (by rw [length_flPair, length_flPair, hl])
 simp only [List.cons.injEq] at h
 obtain ⟨h5, h⟩ := h
 have hl' : js.length = js'.length := by omega
 obtain ⟨h6, h⟩ := List.append_inj h (by rw [length_flJob, length_flJob, hl'])
 simp only [List.cons.injEq, and_true] at h
 obtain ⟨h7, h8, h9⟩ := h
 rw [flPair_inj _ _ h4, flJob_inj _ _ h6, h1, h2, h7, h8, h9]
def unsumOk (r : List Int) : Bool := decide (0 < r.length) && (rowOk r && decide (r[r.length - 1]? = some (sumOf (r.take (r.length - 1)))))
def mid (r : List Int) : List Int := ((r.take (r.length - 1)).drop 4).take (r.length - 7)
def partOk (r : List Int) : Bool := unsumOk r && decide (7 ≤ r.length)
theorem sumOf_low (l : List Int) (h : ∀ x, x ∈ l → 0 ≤ x) : 0 ≤ sumOf l ∧ sumOf l < 999999937 := by
 have H : ∀ (l : List Int) (z : Int), 0 ≤ z → z < 999999937 → (∀ x, x ∈ l → 0 ≤ x) → 0 ≤ l.foldl sumStep z ∧ l.foldl sumStep z < 999999937 := by
  intro l
  induction l with
  | nil => intro z h0 h1 _; exact ⟨h0, h1⟩
  | cons x l ih =>
   intro z h0 h1 hx
   obtain ⟨h2, h3⟩ := sumStep_low h0 (hx x (by simp))
   exact ih _ h2 h3 (fun y hy => hx y (by simp [hy]))
 exact H l 7 dC dC h
theorem unsum_shot {s : DShot} (h : shotOk s = true) {p : Nat} (hp : p ≤ 100) :
  partOk (withSum (shotRow s (stateNums s.State) p)) = true ∧ mid (withSum (shotRow s (stateNums s.State) p)) = ((stateNums s.State).drop (p * 20)).take 20 := by
 rw [withSum_shot h hp]
 obtain ⟨r, hr⟩ : ∃ r, r = shotRow s (stateNums s.State) p := ⟨_, rfl⟩
 have hok := shotRow_ok h hp
 have hl := shotRow_len s (stateNums s.State) p
 have h6 : 6 ≤ (shotRow s (stateNums s.State) p).length := by simp only [shotRow, List.length_append, List.length_cons, List.length_nil]; omega
 have hx := (rowOk_len hok).2
 rw [← hr] at hok hl h6 hx ⊢
 obtain ⟨z0, z1⟩ := sumOf_low r (fun x hx' => (hx x hx').1)
 have hlen : (r ++ [sumOf r]).length = r.length + 1 := by simp
 have ht : (r ++ [sumOf r]).take r.length = r := by rw [List.take_append_of_le_length (Nat.le_refl _), List.take_length]
 constructor
 ·
  simp only [partOk, unsumOk, hlen, Bool.and_eq_true, decide_eq_true_eq, Nat.add_sub_cancel, ht]
  refine ⟨⟨by omega, ?_, by simp⟩, by omega⟩
  simp only [rowOk, Bool.and_eq_true, decide_eq_true_eq, List.all_eq_true, hlen]
  refine ⟨by omega, fun x hx' => ?_⟩
  rcases List.mem_append.1 hx' with h' | h'
  ·
   exact inb_of (hx x h').1 (hx x h').2
  simp at h'; subst h'; exact inb_of z0 oM
 simp only [mid, hlen, Nat.add_sub_cancel, ht]
 subst hr
 have e : (shotRow s (stateNums s.State) p).length + 1 - 7 = (((stateNums s.State).drop (p * 20)).take 20).length := by
  simp only [shotRow, List.length_append, List.length_cons, List.length_nil]; omega
 rw [e]
 simp only [shotRow, List.cons_append, List.nil_append, List.drop_succ_cons, List.drop_zero]
 rw [List.take_append_of_le_length (Nat.le_refl _), List.take_length]
theorem chunks (l : List Int) (k : Nat) : (List.range k).flatMap (fun p => (l.drop (p * 20)).take 20) = l.take (k * 20) := by
 induction k with
 | zero => simp
 | succ k ih => rw [List.range_succ, List.flatMap_append, ih, Nat.add_mul, Nat.one_mul, List.take_add]; simp
theorem shotRows_len {s : DShot} (h : shotOk s = true) : (shotRows s).length = parts (stateNums s.State).length ∧ 1 ≤ (shotRows s).length ∧ (shotRows s).length ≤ 4 := by
 have hb := stateNums_bound (shotOk_parts h).2.2.1
 have hl := stateNums_len s.State
 have e : (shotRows s).length = parts (stateNums s.State).length := by simp [shotRows, h, rowsTo]
 rw [e]; unfold parts
 omega
theorem shotRows_at {s : DShot} (h : shotOk s = true) {p : Nat} (hp : p < (shotRows s).length) : (shotRows s)[p]? = some (withSum (shotRow s (stateNums s.State) p)) := by
 have hl := shotRows_len h
 rw [hl.1] at hp
 simp [shotRows, h, rowsTo, hp]
theorem shotRows_parse {s : DShot} (h : shotOk s = true) : (shotRows s).all partOk = true ∧ (shotRows s).flatMap mid = stateNums s.State := by
 have hl := shotRows_len h
 have hb := stateNums_bound (shotOk_parts h).2.2.1
 constructor
 ·
  rw [List.all_eq_true]
  intro r hr
  obtain ⟨i, hi⟩ := List.mem_iff_getElem?.1 hr
  have hi' : i < (shotRows s).length := (List.getElem?_eq_some_iff.1 hi).1
  rw [shotRows_at h hi'] at hi
  rw [← Option.some.inj hi]
  exact (unsum_shot h oM).1
 have e : (shotRows s).flatMap mid = (List.range (parts (stateNums s.State).length)).flatMap (fun p => ((stateNums s.State).drop (p * 20)).take 20) := by
  rw [shotRows, if_pos h, rowsTo, List.flatMap_map]
  have H : ∀ l : List Nat, (∀ p, p ∈ l → p ≤ 100) → l.flatMap (fun p => mid (withSum (shotRow s (stateNums s.State) p))) = l.flatMap (fun p => ((stateNums s.State).drop (p * 20)).take 20) := by
   intro l
   induction l with
   | nil => intro _; rfl
   | cons x l ih => intro hx; rw [List.flatMap_cons, List.flatMap_cons, ih (fun p hp => hx p (by simp [hp])), (unsum_shot h (hx x (by simp))).2]
  refine H _ (fun p hp => ?_)
  have := List.mem_range.1 hp
  unfold parts at this
  omega
 rw [e, chunks, List.take_of_length_le]
 unfold parts; omega
theorem shotRows_first {s : DShot} (h : shotOk s = true) : ∃ r, (shotRows s)[0]? = some r ∧ r[0]? = some s.Num ∧ r[1]? = some s.State.Index ∧ r[3]? = some ((stateNums s.State).length : Int) ∧ 7 ≤ r.length := by
 have hl := shotRows_len h
 refine ⟨_, shotRows_at h oM, ?_⟩
 rw [withSum_shot h oM]
 simp [shotRow]
theorem shotRows_ends {s : DShot} (h : shotOk s = true) {p : Nat} {r : List Int} (hr : (shotRows s)[p]? = some r) :
  8 ≤ r.length ∧ r[r.length - 2]? = r[0]? ∧ r[r.length - 3]? = r[1]? := by
 have hp : p < (shotRows s).length := (List.getElem?_eq_some_iff.1 hr).1
 have hl := shotRows_len h
 have hb := stateNums_bound (shotOk_parts h).2.2.1
 rw [shotRows_at h hp] at hr
 have hr := Option.some.inj hr
 rw [withSum_shot h oM] at hr
 obtain ⟨m, hm⟩ : ∃ m, m = ((stateNums s.State).drop (p * 20)).take 20 := ⟨_, rfl⟩
 have hml : 1 ≤ m.length := by
  rw [hm]; simp only [List.length_take, List.length_drop]
  rw [hl.1] at hp; unfold parts at hp
  omega
 have hrr : r = [s.Num, s.State.Index, (p : Int), ((stateNums s.State).length : Int)] ++ m ++ [s.State.Index, s.Num, sumOf (shotRow s (stateNums s.State) p)] := by
  rw [← hr, hm]; simp [shotRow]
 have hrl : r.length = m.length + 7 := by rw [hrr]; simp
 refine ⟨by omega, ?_, ?_⟩
 ·
  rw [hrl, hrr, List.getElem?_append_right (by simp)]
  simp [show m.length + 7 - 2 - (m.length + 4) = 1 by omega, show m.length + 7 - 2 - (m.length + 1 + 1 + 1 + 1) = 1 by omega]
 rw [hrl, hrr, List.getElem?_append_right (by simp)]
 simp [show m.length + 7 - 3 - (m.length + 4) = 0 by omega, show m.length + 7 - 3 - (m.length + 1 + 1 + 1 + 1) = 0 by omega]
theorem shotRows_inj {s t : DShot} (h : shotOk s = true) (k : shotOk t = true) (e : shotRows s = shotRows t) : s = t := by
 have h1 := (shotRows_parse h).2; have h2 := (shotRows_parse k).2
 rw [e, h2] at h1
 have h3 := stateNums_inj h1
 obtain ⟨r, hr, h4, _⟩ := shotRows_first h
 obtain ⟨r', hr', h5, _⟩ := shotRows_first k
 rw [e, hr'] at hr
 have hr := Option.some.inj hr
 subst hr
 rw [h5] at h4
 obtain ⟨a, b⟩ := s
 obtain ⟨a', b'⟩ := t
 simp_all
end Go.G8
namespace Go.Proofs.YtlnkggpemdpemaaGreat
open Go.RowKit Go.G8
theorem unsum_last {l : List Int} {z : Int} (hr : rowOk l = true) (h0 : 0 < l.length) (hz : l[l.length - 1]? = some z) : unsumOk l = decide (sumOf (l.take (l.length - 1)) = z) := by
 simp only [unsumOk, hr, h0, decide_true, Bool.true_and, hz, Option.some.injEq]
 by_cases h : sumOf (l.take (l.length - 1)) = z
 ·
  simp [h]
 simp [h, Ne.symm h]
theorem rowOk_take {l : List Int} {m : Nat} (h : rowOk l = true) : rowOk (l.take m) = true := by
 simp only [rowOk, Bool.and_eq_true, decide_eq_true_eq, List.all_eq_true] at h ⊢
 refine ⟨by simp; omega, fun x hx => h.2 x (List.mem_of_mem_take hx)⟩
theorem sUnsummed_c (w : World) (v : Value) (l : List Int) (h : Ints 1 w v l) :
  Calls Tryz.prog 158 #[v] w (Ret w fun r w' => ∃ a n c, r = .tuple #[.slice a n c, .bool (unsumOk l)] ∧ (unsumOk l = true → OwnI w.heap.size 2 1 w' (.slice a n c) (l.take (l.length - 1)))) := by
 obtain ⟨a, cap, rfl, hcap, hm, ha⟩ := h.one
 unfold maxLen at hm
 by_cases h0 : l.length = 0
 ·
  have hu : unsumOk l = false := by simp [unsumOk, h0]
  have hr : rowOk l = true := by rw [List.eq_nil_of_length_eq_zero h0]; rfl
  have HU := Lib.hid hu; have HR := Lib.hid hr
  have hl0 : ((l.length : Nat) : Int) = 0 := by omega
  have HA := Lib.hid ha
  clear ha hu hr
  rw [h0] at h hcap ⊢
  go_enter Tryz.func158, Tryz.ntmps158
  go_wp2_with (first | (go_at_call 89; refine (sRowOk_c _ _ _ h).mono ?_; rintro e w1 ⟨rfl, hx1⟩; rw [HR.out]))
  go_ret2
  refine ⟨_, rfl, xT, _, _, _, by rw [HU.out]; rfl, fun h => by rw [HU.out] at h; cases h⟩
 cases hr : rowOk l
 ·
  have hu : unsumOk l = false := by simp [unsumOk, hr]
  have HU := Lib.hid hu; have HR := Lib.hid hr
  have h0' : decide (((l.length : Nat) : Int) = 0) = false := by simp only [decide_eq_false_iff_not]; omega
  have h0'' : ¬ ((l.length : Nat) : Int) = 0 := by omega
  have HA := Lib.hid ha
  clear ha hu hr
  go_enter Tryz.func158, Tryz.ntmps158
  go_wp2_with (first | (go_at_call 89; refine (sRowOk_c _ _ _ h).mono ?_; rintro e w1 ⟨rfl, hx1⟩; rw [HR.out]))
  go_ret2
  refine ⟨_, rfl, xT, _, _, _, by rw [HU.out]; rfl, fun h => by rw [HU.out] at h; cases h⟩
 have hlen := (rowOk_len hr).1
 obtain ⟨z, b1, o1, hz, rfl, hb1, c⟩ := ha (l.length - 1) oM
 have hu := unsum_last hr oM hz
 have HU := Lib.hid hu; have HR := Lib.hid hr
 have h0' : decide (((l.length : Nat) : Int) = 0) = false := by simp only [decide_eq_false_iff_not]; omega
 have h0'' : ¬ ((l.length : Nat) : Int) = 0 := by omega
 have hlast : ((l.length : Nat) : Int) - 1 = ((l.length - 1 : Nat) : Int) := by omega
 obtain ⟨m, hm'⟩ : ∃ m, m = l.length - 1 := ⟨_, rfl⟩
 rw [← hm'] at hlast c hz hu
 have hml : m < l.length := by omega
 have HT := Lib.hid (rowOk_take (m := m) hr)
 have HM := Lib.hid hm'; have HA := Lib.hid ha
 clear ha hr hz hm'
 go_enter Tryz.func158, Tryz.ntmps158
 go_wp2_with (first | (go_at_call 89; refine (sRowOk_c _ _ _ h).mono ?_; rintro e w1 ⟨rfl, hx1⟩; rw [HR.out]) | (go_at_call 68; refine (l1Copy_c _ _ _ ((h.take (Nat.le_of_lt hml)).ext hx1) (by simp; omega)).mono ?_; rintro e w3 ⟨_, rfl, hx3, g3⟩; obtain ⟨ta, tn, tc, rfl⟩ := g3.shape))
 have E0 : Ext w w3 := hx1.trans hx3
 refine wp_region_ext (by kernel_rfl) (by kernel_rfl) ?_
 repeat (first | go_big_quiet_skip | (go_big_quiet_want; first | (refine quiet_load _ _ _ ?_ rfl rfl (fun wq hq => ?_) ?_; rotate_left; (focus (have y0 := (E0.trans hq).cell c; go_simp; first | done | rfl)); (try simp only [redA, Act.put]); go_big_quiet_on) | (go_big_quiet_op; first | go_big_quiet_on | (refine ⟨_, fun _ _ => rfl, ?_⟩; go_big_quiet_on) | (apply Exists.intro; refine ⟨fun wq hq => ?_, ?_⟩; (focus (first | exact call_ext hq (sSumOf_c wq _ _ ((OwnI.ints g3).ext hq) HT.out))); go_big_quiet_on))))
 refine wpQuiet_nil ?_
 intro w2 hx2
 by_cases hs : sumOf (l.take m) = z
 ·
  have hn : decide (sumOf (l.take m) = z) = true := by simp [hs]
  have hn' : unsumOk l = true := by rw [HU.out, ← HM.out]; exact hn
  have HN := Lib.hid hn'
  clear hn'
  go_wp2_with fail
  go_ret2
  have hz1 := hx1.size
  exact ⟨_, rfl, E0.trans hx2, _, _, _, by rw [HN.out]; rfl, fun _ => by rw [← HM.out]; exact OwnI.mono (OwnI.ext g3 hx2) hz1⟩
 have hn : decide (sumOf (l.take m) = z) = false := by simp [hs]
 have hn' : unsumOk l = false := by rw [HU.out, ← HM.out]; exact hn
 have HN := Lib.hid hn'
 clear hn'
 go_wp2_with fail
 go_ret2
 refine ⟨_, rfl, xT, _, _, _, by rw [HN.out]; rfl, fun h => by rw [HN.out] at h; cases h⟩
theorem unsummed_c (w : World) (v : Value) (l : List Int) (h : Ints 1 w v l) :
  Calls Tryz.prog 152 #[v] w (Ret w fun r w' => ∃ a n c, r = .tuple #[.slice a n c, .bool (unsumOk l)] ∧ (unsumOk l = true → OwnI w.heap.size 2 1 w' (.slice a n c) (l.take (l.length - 1)))) := by
 obtain ⟨a, cap, rfl, hcap, hm, ha⟩ := h.one
 unfold maxLen at hm
 by_cases h0 : l.length = 0
 ·
  have hu : unsumOk l = false := by simp [unsumOk, h0]
  have hr : rowOk l = true := by rw [List.eq_nil_of_length_eq_zero h0]; rfl
  have HU := Lib.hid hu; have HR := Lib.hid hr
  have hl0 : ((l.length : Nat) : Int) = 0 := by omega
  have HA := Lib.hid ha
  clear ha hu hr
  rw [h0] at h hcap ⊢
  go_enter Tryz.func152, Tryz.ntmps152
  go_wp2_with (first | (go_at_call 98; refine (rowOk_c _ _ _ h).mono ?_; rintro e w1 ⟨rfl, hx1⟩; rw [HR.out]))
  go_ret2
  refine ⟨_, rfl, xT, _, _, _, by rw [HU.out]; rfl, fun h => by rw [HU.out] at h; cases h⟩
 cases hr : rowOk l
 ·
  have hu : unsumOk l = false := by simp [unsumOk, hr]
  have HU := Lib.hid hu; have HR := Lib.hid hr
  have h0' : decide (((l.length : Nat) : Int) = 0) = false := by simp only [decide_eq_false_iff_not]; omega
  have h0'' : ¬ ((l.length : Nat) : Int) = 0 := by omega
  have HA := Lib.hid ha
  clear ha hu hr
  go_enter Tryz.func152, Tryz.ntmps152
  go_wp2_with (first | (go_at_call 98; refine (rowOk_c _ _ _ h).mono ?_; rintro e w1 ⟨rfl, hx1⟩; rw [HR.out]))
  go_ret2
  refine ⟨_, rfl, xT, _, _, _, by rw [HU.out]; rfl, fun h => by rw [HU.out] at h; cases h⟩
 have hlen := (rowOk_len hr).1
 obtain ⟨z, b1, o1, hz, rfl, hb1, c⟩ := ha (l.length - 1) oM
 have hu := unsum_last hr oM hz
 have HU := Lib.hid hu; have HR := Lib.hid hr
 have h0' : decide (((l.length : Nat) : Int) = 0) = false := by simp only [decide_eq_false_iff_not]; omega
 have h0'' : ¬ ((l.length : Nat) : Int) = 0 := by omega
 have hlast : ((l.length : Nat) : Int) - 1 = ((l.length - 1 : Nat) : Int) := by omega
 obtain ⟨m, hm'⟩ : ∃ m, m = l.length - 1 := ⟨_, rfl⟩
 rw [← hm'] at hlast c hz hu
 have hml : m < l.length := by omega
 have HT := Lib.hid (rowOk_take (m := m) hr)
 have HM := Lib.hid hm'; have HA := Lib.hid ha
 clear ha hr hz hm'
 go_enter Tryz.func152, Tryz.ntmps152
 go_wp2_with (first | (go_at_call 98; refine (rowOk_c _ _ _ h).mono ?_; rintro e w1 ⟨rfl, hx1⟩; rw [HR.out]))
 have E0 : Ext w w1 := hx1
 refine wp_region_ext (by kernel_rfl) (by kernel_rfl) ?_
 repeat (first | go_big_quiet_skip | (go_big_quiet_want; first | (refine quiet_load _ _ _ ?_ rfl rfl (fun wq hq => ?_) ?_; rotate_left; (focus (have y0 := (E0.trans hq).cell c; go_simp; first | done | rfl)); (try simp only [redA, Act.put]); go_big_quiet_on) | (go_big_quiet_op; first | go_big_quiet_on | (refine ⟨_, fun _ _ => rfl, ?_⟩; go_big_quiet_on) | (apply Exists.intro; refine ⟨fun wq hq => ?_, ?_⟩; (focus (first | exact call_ext hq (checksum_c wq _ _ ((h.take (Nat.le_of_lt hml)).ext (E0.trans hq)) HT.out))); go_big_quiet_on))))
 refine wpQuiet_nil ?_
 intro w2 hx2
 by_cases hs : sumOf (l.take m) = z
 ·
  have hn : decide (sumOf (l.take m) = z) = true := by simp [hs]
  have hn' : unsumOk l = true := by rw [HU.out, ← HM.out]; exact hn
  have HN := Lib.hid hn'
  clear hn'
  go_wp2_with (first | (go_at_call 101; refine (copyRow_c _ _ _ ((h.take (Nat.le_of_lt hml)).ext (E0.trans hx2)) (by simp; omega)).mono ?_; rintro e w3 ⟨_, rfl, hx3, g3⟩; obtain ⟨ta, tn, tc, rfl⟩ := g3.shape))
  go_ret2
  have hz3 := (E0.trans hx2).size
  exact ⟨_, rfl, (E0.trans hx2).trans hx3, _, _, _, by rw [HN.out]; rfl, fun _ => by rw [← HM.out]; exact OwnI.mono g3 hz3⟩
 have hn : decide (sumOf (l.take m) = z) = false := by simp [hs]
 have hn' : unsumOk l = false := by rw [HU.out, ← HM.out]; exact hn
 have HN := Lib.hid hn'
 clear hn'
 go_wp2_with fail
 go_ret2
 refine ⟨_, rfl, E0.trans hx2, _, _, _, by rw [HN.out]; rfl, fun h => by rw [HN.out] at h; cases h⟩
end Go.Proofs.YtlnkggpemdpemaaGreat
namespace Go.G8
open Go.RowKit Go.Proofs.YtlnkggpemdpemaaGreat
def okP (L : List Int) (p : Nat) (l : List DPair) : Prop := L[p]? = some (l.length : Int) ∧ l.length ≤ 10 ∧ (L.drop (p + 1)).take (2 * l.length) = flPair l
def okJ (L : List Int) (p : Nat) (l : List DJob) : Prop := L[p]? = some (l.length : Int) ∧ l.length ≤ 8 ∧ (L.drop (p + 1)).take (5 * l.length) = flJob l
theorem okP_len {L : List Int} {p : Nat} {l : List DPair} (h : okP L p l) : p + 1 + 2 * l.length ≤ L.length := by
 have h1 := congrArg List.length h.2.2
 have h2 := (List.getElem?_eq_some_iff.1 h.1).1
 rw [length_flPair, List.length_take, List.length_drop] at h1
 omega
theorem okJ_len {L : List Int} {p : Nat} {l : List DJob} (h : okJ L p l) : p + 1 + 5 * l.length ≤ L.length := by
 have h1 := congrArg List.length h.2.2
 have h2 := (List.getElem?_eq_some_iff.1 h.1).1
 rw [length_flJob, List.length_take, List.length_drop] at h1
 omega
theorem okP_uniq {L : List Int} {p : Nat} {l l' : List DPair} (h : okP L p l) (k : okP L p l') : l = l' := by
 have h1 := h.1; have k1 := k.1
 rw [h1] at k1
 have hl : l.length = l'.length := by have := Option.some.inj k1; omega
 have h2 := h.2.2; have k2 := k.2.2
 rw [hl, k2] at h2
 exact (flPair_inj _ _ h2).symm
theorem okJ_uniq {L : List Int} {p : Nat} {l l' : List DJob} (h : okJ L p l) (k : okJ L p l') : l = l' := by
 have h1 := h.1; have k1 := k.1
 rw [h1] at k1
 have hl : l.length = l'.length := by have := Option.some.inj k1; omega
 have h2 := h.2.2; have k2 := k.2.2
 rw [hl, k2] at h2
 exact (flJob_inj _ _ h2).symm
theorem pairs_of (xs : List Int) (n : Nat) (h : xs.length = 2 * n) : ∃ l : List DPair, l.length = n ∧ flPair l = xs := by
 induction n generalizing xs with
 | zero => exact ⟨[], rfl, by simp [flPair]; exact List.eq_nil_of_length_eq_zero oM⟩
 | succ n ih =>
  match xs, h with
  | a :: b :: t, h =>
   obtain ⟨l, h1, h2⟩ := ih t (by simp at h; omega)
   exact ⟨⟨a, b⟩ :: l, by simp [h1], by simp [flPair, DPair.ints] at h2 ⊢; exact h2⟩
  | [a], h => simp at h; omega
  | [], h => simp at h
theorem jobs_of (xs : List Int) (n : Nat) (h : xs.length = 5 * n) : ∃ l : List DJob, l.length = n ∧ flJob l = xs := by
 induction n generalizing xs with
 | zero => exact ⟨[], rfl, by simp [flJob]; exact List.eq_nil_of_length_eq_zero oM⟩
 | succ n ih =>
  match xs, h with
  | a :: b :: c :: d :: e :: t, h =>
   obtain ⟨l, h1, h2⟩ := ih t (by simp at h; omega)
   exact ⟨⟨a, b, c, d, e⟩ :: l, by simp [h1], by simp [flJob, DJob.ints] at h2 ⊢; exact h2⟩
  | [a, b, c, d], h => simp at h; omega
  | [a, b, c], h => simp at h; omega
  | [a, b], h => simp at h; omega
  | [a], h => simp at h; omega
  | [], h => simp at h
theorem okP_of {L : List Int} {p n : Nat} (h0 : L[p]? = some (n : Int)) (h1 : n ≤ 10) (h2 : p + 1 + 2 * n ≤ L.length) : ∃ l, okP L p l ∧ l.length = n := by
 obtain ⟨l, h3, h4⟩ := pairs_of ((L.drop (p + 1)).take (2 * n)) n (by rw [List.length_take, List.length_drop]; omega)
 exact ⟨l, ⟨by rw [h3]; exact h0, by omega, by rw [h3]; exact h4.symm⟩, h3⟩
theorem okJ_of {L : List Int} {p n : Nat} (h0 : L[p]? = some (n : Int)) (h1 : n ≤ 8) (h2 : p + 1 + 5 * n ≤ L.length) : ∃ l, okJ L p l ∧ l.length = n := by
 obtain ⟨l, h3, h4⟩ := jobs_of ((L.drop (p + 1)).take (5 * n)) n (by rw [List.length_take, List.length_drop]; omega)
 exact ⟨l, ⟨by rw [h3]; exact h0, by omega, by rw [h3]; exact h4.symm⟩, h3⟩
def parsed (L : List Int) (s : DState) : Prop := stateOk s = true ∧ stateNums s = L
theorem parsed_uniq {L : List Int} {s t : DState} (h : parsed L s) (k : parsed L t) : s = t := stateNums_inj (h.2.trans k.2.symm)
theorem nums_split (s : DState) : stateNums s = s.Index :: s.Time :: ((s.Pairs.length : Int) :: (flPair s.Pairs ++ ((s.Jobs.length : Int) :: (flJob s.Jobs ++ [s.Lease.Holder, s.Lease.Epoch, s.Lease.Until])))) := by simp [stateNums]
theorem parsed_at {L : List Int} {s : DState} (h : parsed L s) : L.length = 7 + 2 * s.Pairs.length + 5 * s.Jobs.length ∧ okP L 2 s.Pairs ∧ okJ L (3 + 2 * s.Pairs.length) s.Jobs ∧ L[0]? = some s.Index ∧ L[1]? = some s.Time ∧
  (L.drop (4 + 2 * s.Pairs.length + 5 * s.Jobs.length)) = [s.Lease.Holder, s.Lease.Epoch, s.Lease.Until] := by
 obtain ⟨hok, rfl⟩ := h
 obtain ⟨hl1, hl2⟩ := stateOk_lens hok
 have hp := length_flPair s.Pairs
 have hj := length_flJob s.Jobs
 refine ⟨stateNums_len s, ⟨?_, hl1, ?_⟩, ⟨?_, hl2, ?_⟩, ?_, ?_, ?_⟩
 ·
  rw [nums_split]; rfl
 ·
  rw [nums_split]
  simp only [List.drop_succ_cons, List.drop_zero]
  rw [List.take_append_of_le_length oM, List.take_of_length_le oM]
 ·
  rw [nums_split, show 3 + 2 * s.Pairs.length = 2 * s.Pairs.length + 1 + 1 + 1 by omega]
  simp only [List.getElem?_cons_succ]
  rw [List.getElem?_append_right oM, show 2 * s.Pairs.length - (flPair s.Pairs).length = 0 by omega]
  rfl
 ·
  rw [nums_split, show 3 + 2 * s.Pairs.length + 1 = (2 * s.Pairs.length + 1) + 1 + 1 + 1 by omega]
  simp only [List.drop_succ_cons]
  rw [List.drop_append, List.drop_of_length_le oM, show 2 * s.Pairs.length + 1 - (flPair s.Pairs).length = 1 by omega]
  simp only [List.nil_append, List.drop_succ_cons, List.drop_zero]
  rw [List.take_append_of_le_length oM, List.take_of_length_le oM]
 ·
  rw [nums_split]; rfl
 ·
  rw [nums_split]; rfl
 rw [nums_split, show 4 + 2 * s.Pairs.length + 5 * s.Jobs.length = (2 * s.Pairs.length + (5 * s.Jobs.length + 1)) + 1 + 1 + 1 by omega]
 simp only [List.drop_succ_cons]
 rw [List.drop_append, List.drop_of_length_le oM, show 2 * s.Pairs.length + (5 * s.Jobs.length + 1) - (flPair s.Pairs).length = 5 * s.Jobs.length + 1 by omega]
 simp only [List.nil_append, List.drop_succ_cons]
 rw [List.drop_append, List.drop_of_length_le oM, show 5 * s.Jobs.length - (flJob s.Jobs).length = 0 by omega]
 rfl
theorem drop_at {L : List Int} {p : Nat} {x : Int} (h : L[p]? = some x) : L.drop p = x :: L.drop (p + 1) := by
 obtain ⟨h1, h2⟩ := List.getElem?_eq_some_iff.1 h
 rw [← h2]; exact List.drop_eq_getElem_cons h1
theorem parsed_of {L : List Int} {i t h e u : Int} {ps : List DPair} {js : List DJob} (h0 : L[0]? = some i) (h1 : L[1]? = some t) (hp : okP L 2 ps) (hj : okJ L (3 + 2 * ps.length) js)
  (hd : L.drop (4 + 2 * ps.length + 5 * js.length) = [h, e, u]) : stateNums ⟨i, t, ps, js, ⟨h, e, u⟩⟩ = L := by
 have e0 : L = L.drop 0 := by simp
 rw [nums_split]
 simp only []
 have hq := hp.2.2; have hk := hj.2.2
 have a1 : L.drop 3 = flPair ps ++ L.drop (3 + 2 * ps.length) := by
  have := List.take_append_drop (2 * ps.length) (L.drop (2 + 1))
  rw [hq, List.drop_drop] at this
  rw [← this]
 have a2 : L.drop (3 + 2 * ps.length + 1) = flJob js ++ L.drop (4 + 2 * ps.length + 5 * js.length) := by
  have := List.take_append_drop (5 * js.length) (L.drop (3 + 2 * ps.length + 1))
  rw [hk, List.drop_drop] at this
  rw [← this]; congr 2; omega
 rw [← hd, ← a2, ← drop_at hj.1, ← a1]
 rw [← drop_at hp.1]
 rw [← drop_at (p := 1) h1, ← drop_at (p := 0) h0, List.drop_zero]
end Go.G8
namespace Go.Proofs.YtlnkggpemdpemaaGreat
open Go.RowKit Go.G8
theorem OwnI.lit (w : World) (e : TypeId) (xs : List Int) (h : xs.length ≤ 1000) : OwnI w.heap.size e 1 (w.alloc (.cells (xs.map (Value.int .i64)).toArray e)) (.slice (some ⟨w.heap.size, 0, none⟩) xs.length xs.length) xs := by
 refine Own.of_blk (cap := xs.length) (Blk.new w _ _) (Nat.le_refl _) (by simp) (by simp) (Nat.le_refl _) (by unfold maxLen; omega) ?_
 intro j hj
 simp
theorem sLeaseRow_c (w : World) (a b c : Int) (hok : leaseOk ⟨a, b, c⟩ = true) : Calls Tryz.prog 183 #[.agg #[.int .i64 a, .int .i64 b, .int .i64 c]] w (Ret w fun r w' => OwnI w.heap.size 2 1 w' r [a, b, c]) := by
 have HOK := Lib.hid hok
 clear hok
 have hE0 : Ext w (w.alloc (.cells #[.int .i64 a, .int .i64 b, .int .i64 c] 37)) := (Ext.refl _).alloc _
 go_enter Tryz.func183, Tryz.ntmps183
 go_wp2_with fail
 refine (sLeaseOk_c _ a b c).mono ?_
 rintro e w1 ⟨rfl, hx1⟩
 rw [HOK.out]
 have KP1 := (Blk.new w 37 #[.int .i64 a, .int .i64 b, .int .i64 c]).ext hx1
 have CP1 := KP1.cell
 have hz1 := hx1.size
 simp only [World.size_alloc] at hz1
 have hp1 : w.heap.size < w1.heap.size := by omega
 go_wp2_with fail
 go_ret
 exact ⟨_, rfl, (hE0.trans hx1).alloc _, OwnI.mono (OwnI.lit w1 2 [a, b, c] (by simp)) oM⟩
theorem sStateNumbers_c (w : World) (s : DState) (s2 s3 : Value) (h2 : Ints 2 w s2 (flPair s.Pairs)) (h3 : Ints 5 w s3 (flJob s.Jobs)) :
  Calls Tryz.prog 163 #[.agg #[.int .i64 s.Index, .int .i64 s.Time, s2, s3, .int .i64 s.Lease.Holder, .int .i64 s.Lease.Epoch, .int .i64 s.Lease.Until]] w (Ret w fun r w' => OwnI w.heap.size 2 1 w' r (stateNumbers s)) := by
 obtain ⟨a2, n2, k2, rfl⟩ := h2.shape
 obtain ⟨a3, n3, k3, rfl⟩ := h3.shape
 obtain ⟨i0, hi, hz0, hz1, hz2⟩ := info_parts info_Int64
 have hE0 : Ext w (w.alloc (.cells #[.int .i64 s.Index, .int .i64 s.Time, .slice a2 n2 k2, .slice a3 n3 k3, .int .i64 s.Lease.Holder, .int .i64 s.Lease.Epoch, .int .i64 s.Lease.Until] 39)) := (Ext.refl _).alloc _
 go_enter Tryz.func163, Tryz.ntmps163
 go_wp2_with fail
 refine (sStateOk_c _ s.Index s.Time _ s.Pairs _ s.Jobs s.Lease.Holder s.Lease.Epoch s.Lease.Until (h2.ext hE0) (h3.ext hE0)).mono ?_
 rintro e w1 ⟨rfl, hx1⟩
 have KP1 := (Blk.new w 39 #[.int .i64 s.Index, .int .i64 s.Time, .slice a2 n2 k2, .slice a3 n3 k3, .int .i64 s.Lease.Holder, .int .i64 s.Lease.Epoch, .int .i64 s.Lease.Until]).ext hx1
 have CP1 := KP1.cell
 have hE1 : Ext w w1 := hE0.trans hx1
 have hzz := hx1.size
 simp only [World.size_alloc] at hzz
 have hp1 : w.heap.size < w1.heap.size := by omega
 clear hx1
 cases hb : stateOk s
 ·
  go_wp2_with fail
  go_ret
  exact ⟨_, rfl, hE1.alloc _, by rw [show stateNumbers s = [] by simp [stateNumbers, hb]]; exact OwnI.mono (show OwnI w1.heap.size 2 1 _ _ [] from Own.fresh w1 2 1) oM⟩
 obtain ⟨hl1, hl2⟩ := stateOk_lens hb
 have hpk : pairsOk s.Pairs = true ∧ jobsOk s.Jobs = true ∧ leaseOk s.Lease = true := by
  simp only [stateOk, Bool.and_eq_true] at hb
  exact ⟨hb.2.2.1, hb.2.2.2.1, hb.2.2.2.2.1⟩
 have HPK := Lib.hid hpk
 have HBB := Lib.hid hb
 clear hb hpk
 have O0 := OwnI.lit w1 2 [s.Index, s.Time] (by simp)
 go_wp2_with fail
 refine (sPairsRow_c _ _ s.Pairs (h2.ext (hE1.alloc _)) HPK.out.1 oM).mono ?_
 rintro e w2 ⟨_, rfl, hx2, o2⟩
 obtain ⟨b2, m2, c2, rfl⟩ := o2.shape
 have E2 : Ext w1 w2 := Ext.trans ((Ext.refl w1).alloc _) hx2
 have O2 := OwnI.ext O0 hx2
 have KP2 := KP1.ext E2; have CP2 := KP2.cell; have hp2 : w.heap.size < w2.heap.size := by (have := E2.size; omega)
 clear O0 CP1
 go_wp2_with (first | (at_builtin; refine wp_append rfl (.tmp 13) (.tmp 16) 49 rfl 2 i0 _ 1 8 Tryz.underlying49 hi hz0 hz1 hz2 rfl dC w1.heap.size _ (([s.Index, s.Time]).map (.int .i64)) rfl O2 _ (((s.Pairs.length : Int) :: flPair s.Pairs).map (.int .i64)) rfl o2.ints (ints_oneCell _ _) 1000000 (by simp [length_flPair, length_flJob]; omega) (by unfold maxLen; omega) oM (by have := E2.size; omega) w1 E2 (Nat.le_refl _) ?_; rotate_right; intro v3 w3 O3 E3 _; have O3 : OwnI w1.heap.size 2 1 w3 v3 ([s.Index, s.Time] ++ ((s.Pairs.length : Int) :: flPair s.Pairs)) := (by simpa [OwnI] using O3); obtain ⟨b3, m3, c3, rfl⟩ := O3.shape; have KP3 := KP1.ext E3; have CP3 := KP3.cell; have hp3 : w.heap.size < w3.heap.size := by (have := E3.size; omega)))
 clear CP2 O2 o2
 go_wp2_with fail
 refine (sOrdersRow_c _ _ s.Jobs (h3.ext (hE1.trans E3)) HPK.out.2.1 oM).mono ?_
 rintro e w4 ⟨_, rfl, hx4, o4⟩
 obtain ⟨b4, m4, c4, rfl⟩ := o4.shape
 have E4 : Ext w1 w4 := E3.trans hx4
 have O4 := OwnI.ext O3 hx4
 have KP4 := KP1.ext E4; have CP4 := KP4.cell; have hp4 : w.heap.size < w4.heap.size := by (have := E4.size; omega)
 clear CP3 O3
 go_wp2_with (first | (at_builtin; refine wp_append rfl (.tmp 18) (.tmp 21) 49 rfl 2 i0 _ 1 8 Tryz.underlying49 hi hz0 hz1 hz2 rfl dC w1.heap.size _ (([s.Index, s.Time] ++ ((s.Pairs.length : Int) :: flPair s.Pairs)).map (.int .i64)) rfl O4 _ (((s.Jobs.length : Int) :: flJob s.Jobs).map (.int .i64)) rfl o4.ints (ints_oneCell _ _) 1000000 (by simp [length_flPair, length_flJob]; omega) (by unfold maxLen; omega) oM (by have := E4.size; omega) w1 E4 (Nat.le_refl _) ?_; rotate_right; intro v5 w5 O5 E5 _; have O5 : OwnI w1.heap.size 2 1 w5 v5 ([s.Index, s.Time] ++ ((s.Pairs.length : Int) :: flPair s.Pairs) ++ ((s.Jobs.length : Int) :: flJob s.Jobs)) := (by simpa [OwnI] using O5); obtain ⟨b5, m5, c5, rfl⟩ := O5.shape; have KP5 := KP1.ext E5; have CP5 := KP5.cell; have hp5 : w.heap.size < w5.heap.size := by (have := E5.size; omega)))
 clear CP4 O4 o4
 go_wp2_with fail
 refine (sLeaseRow_c _ s.Lease.Holder s.Lease.Epoch s.Lease.Until HPK.out.2.2).mono ?_
 rintro e w6 ⟨_, rfl, hx6, o6⟩
 obtain ⟨b6, m6, c6, rfl⟩ := o6.shape
 have E6 : Ext w1 w6 := E5.trans hx6
 have O6 := OwnI.ext O5 hx6
 have KP6 := KP1.ext E6; have CP6 := KP6.cell; have hp6 : w.heap.size < w6.heap.size := by (have := E6.size; omega)
 clear CP5 O5
 go_wp2_with (first | (at_builtin; refine wp_append rfl (.tmp 23) (.tmp 26) 49 rfl 2 i0 _ 1 8 Tryz.underlying49 hi hz0 hz1 hz2 rfl dC w1.heap.size _ (([s.Index, s.Time] ++ ((s.Pairs.length : Int) :: flPair s.Pairs) ++ ((s.Jobs.length : Int) :: flJob s.Jobs)).map (.int .i64)) rfl O6 _ (([s.Lease.Holder, s.Lease.Epoch, s.Lease.Until]).map (.int .i64)) rfl o6.ints (ints_oneCell _ _) 1000000 (by simp [length_flPair, length_flJob]; omega) (by unfold maxLen; omega) oM (by have := E6.size; omega) w1 E6 (Nat.le_refl _) ?_; rotate_right; intro v7 w7 O7 E7 _))
 have O7 : OwnI w1.heap.size 2 1 w7 v7 ([s.Index, s.Time] ++ ((s.Pairs.length : Int) :: flPair s.Pairs) ++ ((s.Jobs.length : Int) :: flJob s.Jobs) ++ [s.Lease.Holder, s.Lease.Epoch, s.Lease.Until]) := by simpa [OwnI] using O7
 go_ret
 refine ⟨_, rfl, hE1.trans E7, ?_⟩
 rw [show stateNumbers s = stateNums s by simp [stateNumbers, HBB.out]]
 exact OwnI.mono O7 oM
theorem sShotOk_c (w : World) (c0_0 : Int) (c0_1 : Int) (c0_2 : Int) (s0_3 : Value) (l0_3 : List DPair) (s0_4 : Value) (l0_4 : List DJob) (c0_5 : Int) (c0_6 : Int) (c0_7 : Int) (h0_3 : Ints 2 w s0_3 (flPair l0_3)) (h0_4 : Ints 5 w s0_4 (flJob l0_4)) :
  Calls Tryz.prog 162 #[.agg #[.int .i64 c0_0, .int .i64 c0_1, .int .i64 c0_2, s0_3, s0_4, .int .i64 c0_5, .int .i64 c0_6, .int .i64 c0_7]] w (RetV w (.bool (shotOk (⟨c0_0, ⟨c0_1, c0_2, l0_3, l0_4, ⟨c0_5, c0_6, c0_7⟩⟩⟩ : DShot)))) := by
 obtain ⟨a0_3, n0_3, k0_3, rfl⟩ := h0_3.shape
 obtain ⟨a0_4, n0_4, k0_4, rfl⟩ := h0_4.shape
 have hsi : stateOk (⟨c0_1, c0_2, l0_3, l0_4, ⟨c0_5, c0_6, c0_7⟩⟩ : DState) = true → 0 ≤ c0_1 := fun h => by simp only [stateOk, Bool.and_eq_true] at h; exact (inb_true.1 h.1).1
 have hne : stateOk (⟨c0_1, c0_2, l0_3, l0_4, ⟨c0_5, c0_6, c0_7⟩⟩ : DState) = true → (c0_1 != 0) = decide (0 < c0_1) := fun h => by
  have h1 := hsi h
  by_cases h0 : c0_1 = 0
  ·
   simp [h0]
  have h2 : 0 < c0_1 := by omega
  simp [h0, h2]
 have rsize_setRow := @size_setRow
 have rcell_setRow_lt := @cell_setRow_lt
 have rcell_setRow_gt := @cell_setRow_gt
 have rfrozen_setRow_lt := @frozen_setRow_lt
 have rfrozen_setRow_gt := @frozen_setRow_gt
 go_enter Tryz.func162, Tryz.ntmps162
 go_wp2_with (first | (go_at_call 32; refine (l1In_c _ _ _ _  ).mono ?_; rintro e wa ⟨rfl, rfl⟩) | (go_at_call 27; refine (sStateOk_c _ _ _ _ _ _ _ _ _ _ (by first | (with_reducible exact Ints.ext (by assumption) xT) | (with_reducible exact Ints.ext (OwnI.ints (by assumption)) xT) | with_reducible exact rnil_flPair _ _) (by first | (with_reducible exact Ints.ext (by assumption) xT) | (with_reducible exact Ints.ext (OwnI.ints (by assumption)) xT) | with_reducible exact rnil_flJob _ _) ).mono ?_; rintro e wb ⟨rfl, hxb⟩; have hzb := hxb.size; (repeat (first | simp only [World.size_alloc] at hzb | simp only [World.size_setCell] at hzb | simp only [size_setRow] at hzb)); (try have hyb_a_0 : wa.heap.size < wb.heap.size := oM); (try have hyb_a_1 : wa.heap.size + 1 < wb.heap.size := oM); (try have hyb_a_2 : wa.heap.size + 1 + 1 < wb.heap.size := oM); have Kb0 : Blk wb (w.heap.size) 78 _ := Blk.ext (by exact blkT) hxb; (try simp only [List.setIfInBounds_toArray, List.set_cons_zero, List.set_cons_succ] at Kb0); have CKb0 := Kb0.cell; have FKb0 := Kb0.frozen; have hyb__0 : w.heap.size < wb.heap.size := oM; (try (have Kb_a0 : Blk wb (wa.heap.size) _ _ := Blk.ext (by exact blkT) hxb; (try simp only [List.setIfInBounds_toArray, List.set_cons_zero, List.set_cons_succ] at Kb_a0); have CKb_a0 := Kb_a0.cell; have FKb_a0 := Kb_a0.frozen)); (try (have Kb_a1 : Blk wb (wa.heap.size + 1) _ _ := Blk.ext (by exact blkT) hxb; (try simp only [List.setIfInBounds_toArray, List.set_cons_zero, List.set_cons_succ] at Kb_a1); have CKb_a1 := Kb_a1.cell; have FKb_a1 := Kb_a1.frozen)); (try (have Kb_a2 : Blk wb (wa.heap.size + 1 + 1) _ _ := Blk.ext (by exact blkT) hxb; (try simp only [List.setIfInBounds_toArray, List.set_cons_zero, List.set_cons_succ] at Kb_a2); have CKb_a2 := Kb_a2.cell; have FKb_a2 := Kb_a2.frozen))))
 all_goals
  go_ret
  refine ⟨by first | rfl | (simp [shotOk, inb, *]; done) | (simp [shotOk, inb, *]; omega) | (simp_all [shotOk, inb, bq, bn]; done) | (simp_all [shotOk, inb, bq, bn]; omega), ?_⟩
  exact xT
theorem shotOk_c (w : World) (c0_0 : Int) (c0_1 : Int) (c0_2 : Int) (s0_3 : Value) (l0_3 : List DPair) (s0_4 : Value) (l0_4 : List DJob) (c0_5 : Int) (c0_6 : Int) (c0_7 : Int) (h0_3 : Ints 2 w s0_3 (flPair l0_3)) (h0_4 : Ints 5 w s0_4 (flJob l0_4)) :
  Calls Tryz.prog 86 #[.agg #[.int .i64 c0_0, .int .i64 c0_1, .int .i64 c0_2, s0_3, s0_4, .int .i64 c0_5, .int .i64 c0_6, .int .i64 c0_7]] w (RetV w (.bool (shotOk (⟨c0_0, ⟨c0_1, c0_2, l0_3, l0_4, ⟨c0_5, c0_6, c0_7⟩⟩⟩ : DShot)))) := by
 obtain ⟨a0_3, n0_3, k0_3, rfl⟩ := h0_3.shape
 obtain ⟨a0_4, n0_4, k0_4, rfl⟩ := h0_4.shape
 have hsi : stateOk (⟨c0_1, c0_2, l0_3, l0_4, ⟨c0_5, c0_6, c0_7⟩⟩ : DState) = true → 0 ≤ c0_1 := fun h => by simp only [stateOk, Bool.and_eq_true] at h; exact (inb_true.1 h.1).1
 have hne : stateOk (⟨c0_1, c0_2, l0_3, l0_4, ⟨c0_5, c0_6, c0_7⟩⟩ : DState) = true → (c0_1 != 0) = decide (0 < c0_1) := fun h => by
  have h1 := hsi h
  by_cases h0 : c0_1 = 0
  ·
   simp [h0]
  have h2 : 0 < c0_1 := by omega
  simp [h0, h2]
 have rsize_setRow := @size_setRow
 have rcell_setRow_lt := @cell_setRow_lt
 have rcell_setRow_gt := @cell_setRow_gt
 have rfrozen_setRow_lt := @frozen_setRow_lt
 have rfrozen_setRow_gt := @frozen_setRow_gt
 go_enter Tryz.func86, Tryz.ntmps86
 go_wp2_with (first | (go_at_call 62; refine (between_c _ _ _ _  ).mono ?_; rintro e wa ⟨rfl, rfl⟩) | (go_at_call 61; refine (stateOk_c _ _ _ _ _ _ _ _ _ _ (by first | (with_reducible exact Ints.ext (by assumption) xT) | (with_reducible exact Ints.ext (OwnI.ints (by assumption)) xT) | with_reducible exact rnil_flPair _ _) (by first | (with_reducible exact Ints.ext (by assumption) xT) | (with_reducible exact Ints.ext (OwnI.ints (by assumption)) xT) | with_reducible exact rnil_flJob _ _) ).mono ?_; rintro e wb ⟨rfl, hxb⟩; have hzb := hxb.size; (repeat (first | simp only [World.size_alloc] at hzb | simp only [World.size_setCell] at hzb | simp only [size_setRow] at hzb)); (try have hyb_a_0 : wa.heap.size < wb.heap.size := oM); (try have hyb_a_1 : wa.heap.size + 1 < wb.heap.size := oM); (try have hyb_a_2 : wa.heap.size + 1 + 1 < wb.heap.size := oM); have Kb0 : Blk wb (w.heap.size) 78 _ := Blk.ext (by exact blkT) hxb; (try simp only [List.setIfInBounds_toArray, List.set_cons_zero, List.set_cons_succ] at Kb0); have CKb0 := Kb0.cell; have FKb0 := Kb0.frozen; have hyb__0 : w.heap.size < wb.heap.size := oM; (try (have Kb_a0 : Blk wb (wa.heap.size) _ _ := Blk.ext (by exact blkT) hxb; (try simp only [List.setIfInBounds_toArray, List.set_cons_zero, List.set_cons_succ] at Kb_a0); have CKb_a0 := Kb_a0.cell; have FKb_a0 := Kb_a0.frozen)); (try (have Kb_a1 : Blk wb (wa.heap.size + 1) _ _ := Blk.ext (by exact blkT) hxb; (try simp only [List.setIfInBounds_toArray, List.set_cons_zero, List.set_cons_succ] at Kb_a1); have CKb_a1 := Kb_a1.cell; have FKb_a1 := Kb_a1.frozen)); (try (have Kb_a2 : Blk wb (wa.heap.size + 1 + 1) _ _ := Blk.ext (by exact blkT) hxb; (try simp only [List.setIfInBounds_toArray, List.set_cons_zero, List.set_cons_succ] at Kb_a2); have CKb_a2 := Kb_a2.cell; have FKb_a2 := Kb_a2.frozen))))
 all_goals
  go_ret
  refine ⟨by first | rfl | (simp [shotOk, inb, *]; done) | (simp [shotOk, inb, *]; omega) | (simp_all [shotOk, inb, bq, bn]; done) | (simp_all [shotOk, inb, bq, bn]; omega), ?_⟩
  exact xT
end Go.Proofs.YtlnkggpemdpemaaGreat
namespace Go.G8
open Go.RowKit
theorem Ints.part {w : World} {a : Option Addr} {cap : Nat} {xs : List Int} (h : Ints 1 w (.slice a xs.length cap) xs) {l m : Nat} (h1 : l < m) (h2 : m ≤ xs.length) (h3 : xs.length ≤ cap) : Ints 1 w (.slice (a.map (fun x => x.add l)) (m - l) (cap - l)) ((xs.take m).drop l) := by
 have := h.sliced (l := l) (m := m) (Nat.le_of_lt h1) h2
 unfold Go.sliced at this
 rw [if_neg oM, Nat.mul_one] at this
 exact this
theorem own_ne {B B' : Nat} {e e1 e2 : TypeId} {n m : Nat} {w : World} {v u : Value} {rows : List NRow} {ss : List Value} {xs : List Int} (h : OwnI B e2 m w v xs) (k : OwnNs B' e e1 n w u rows ss) (hn : e2 ≠ e) : v.ownBlock = none ∨ v.ownBlock ≠ u.ownBlock := by
 cases hv : v.ownBlock with
 | none => exact .inl rfl
 | some b =>
  refine .inr (fun hu => ?_)
  obtain ⟨c1, h1⟩ := Own.typed h hv
  obtain ⟨c2, h2⟩ := Own.typed k.2.2.1 hu.symm
  exact hn (h1.same h2)
end Go.G8
namespace Go.Proofs.YtlnkggpemdpemaaGreat
open Go.RowKit Go.G8
theorem partsOf_c (w : World) (n : Nat) (hn : n ≤ 100000) : Calls Tryz.prog 96 #[.int .i64 (n : Int)] w fun e w' => e = .returned (.int .i64 ((parts n : Nat) : Int)) ∧ w = w' := by
 have hq : (((n + 19 : Nat) : Int)).tdiv 20 = ((parts n : Nat) : Int) := rfl
 have e1 : (n : Int) + 20 - 1 = ((n + 19 : Nat) : Int) := by omega
 rw [← hq]
 obtain ⟨m, hm⟩ : ∃ m : Nat, m = n + 19 := ⟨_, rfl⟩
 rw [← hm] at e1 ⊢
 have hml : m ≤ 100100 := by omega
 go_enter Tryz.func96, Tryz.ntmps96
 go_wp2_with fail
 go_ret
 simp [e1]; omega
theorem shotRows_k {w : World} {v : Value} {s : DShot} (h : RdShot w v s) : Calls Tryz.prog 87 #[v] w (Ret w fun r w' => ∃ FF, OwRows w.heap.size w' r (shotRows s) FF) := by
 obtain ⟨t2, t3, rfl, h2, h3⟩ := h
 obtain ⟨a2, n2, k2, rfl⟩ := h2.shape
 obtain ⟨a3, n3, k3, rfl⟩ := h3.shape
 obtain ⟨i0, hi, hz0, hz1, hz2⟩ := info_parts info_Int64
 obtain ⟨j0, hj, hy0, hy1, hy2⟩ := info_parts info_Int64S
 have hE0 : Ext w (w.alloc (.cells #[.int .i64 s.Num, .int .i64 s.State.Index, .int .i64 s.State.Time, .slice a2 n2 k2, .slice a3 n3 k3, .int .i64 s.State.Lease.Holder, .int .i64 s.State.Lease.Epoch, .int .i64 s.State.Lease.Until] 78)) := (Ext.refl _).alloc _
 have B0 : Blk (w.alloc (.cells #[.int .i64 s.Num, .int .i64 s.State.Index, .int .i64 s.State.Time, .slice a2 n2 k2, .slice a3 n3 k3, .int .i64 s.State.Lease.Holder, .int .i64 s.State.Lease.Epoch, .int .i64 s.State.Lease.Until] 78)) w.heap.size 78 #[.int .i64 s.Num, .int .i64 s.State.Index, .int .i64 s.State.Time, .slice a2 n2 k2, .slice a3 n3 k3, .int .i64 s.State.Lease.Holder, .int .i64 s.State.Lease.Epoch, .int .i64 s.State.Lease.Until] := Blk.new _ _ _
 go_enter Tryz.func87, Tryz.ntmps87
 go_wp2_with fail
 refine (shotOk_c _ s.Num s.State.Index s.State.Time _ s.State.Pairs _ s.State.Jobs s.State.Lease.Holder s.State.Lease.Epoch s.State.Lease.Until (h2.ext hE0) (h3.ext hE0)).mono ?_
 rintro e w1 ⟨rfl, hx1⟩
 have KP1 := B0.ext hx1
 have CP1 := KP1.cell
 have hE1 : Ext w w1 := hE0.trans hx1
 have hzz := hx1.size
 simp only [World.size_alloc] at hzz
 have hp1 : w.heap.size < w1.heap.size := by omega
 clear hx1 B0
 cases hb : shotOk s
 ·
  go_wp2_with fail
  go_ret
  exact ⟨_, rfl, hE1, _, [], by rw [show shotRows s = [] by simp [shotRows, hb]]; exact OwnNs.nil _ _ _ _ _, rfl⟩
 have HBB := Lib.hid hb
 have hst := (shotOk_parts hb).2.2.1
 have hnb := stateNums_bound hst
 clear hb
 go_wp2_with fail
 refine (stateNumbers_c _ s.State _ _ (h2.ext hE1) (h3.ext hE1)).mono ?_
 rintro e w2 ⟨_, rfl, hx2, o2⟩
 rw [show stateNumbers s.State = stateNums s.State by simp [stateNumbers, hst]] at o2
 obtain ⟨N, hN⟩ : ∃ N, N = stateNums s.State := ⟨_, rfl⟩
 rw [← hN] at o2 hnb
 obtain ⟨na, nc, rfl, hnc, hnm, hna⟩ := o2.ints.one
 have HNA := Lib.hid hna
 unfold maxLen at hnm
 have hE2 : Ext w w2 := hE1.trans hx2
 have KP2 := KP1.ext hx2
 have CP2 := KP2.cell
 have hz2' := hx2.size
 have hp2 : w.heap.size < w2.heap.size := by omega
 have HIN := Lib.hid o2.ints
 have HN := Lib.hid hN
 have hst' := Lib.hid hst
 clear hx2 CP1 hna o2 hN hst
 go_wp2_with fail
 obtain ⟨W3, hW3⟩ : ∃ W3, W3 = w2.alloc (.cells #[] 49) := ⟨_, rfl⟩
 rw [← hW3]
 have hE3 : Ext w2 W3 := by rw [hW3]; exact (Ext.refl _).alloc _
 have hz3 : W3.heap.size = w2.heap.size + 1 := by rw [hW3]; simp
 have hO3 : OwnNs w2.heap.size 49 2 0 W3 (.slice (some ⟨w2.heap.size, 0, none⟩) 0 0) [] [] := by rw [hW3]; exact OwnNs.made0 w2 _ _ 0 0 #[] (by simp) dC
 clear hW3
 go_loopw [5, 6] (fun rows part wr => ∃ k : Nat, k ≤ parts N.length ∧ part = .int .i64 k ∧ Ext w2 wr ∧ ∃ ss, OwnNs w2.heap.size 49 2 0 wr rows (nestInt64S (rowsTo s N k)) ss) (fun _ part _ => parts N.length - (intOf part).toNat)
 case atStart => exact ⟨0, Nat.zero_le _, rfl, hE3, [], by simpa [nestInt64S, rowsTo] using hO3⟩
 case round =>
  obtain ⟨k, hk, rfl, he, ss, hown⟩ := hrel
  obtain ⟨ra, rn, rc, rfl⟩ := hown.nest.shape
  have hp4 : parts N.length ≤ 5 := by unfold parts; omega
  have KPr := KP2.ext he
  have CPr := KPr.cell
  have hzr := he.size
  have hpr : w.heap.size < wr.heap.size := by omega
  have hfo := hown.foot
  have hlen : (nestInt64S (rowsTo s N k)).length = k := by simp [nestInt64S, rowsTo]
  go_wp2_with fail
  refine (partsOf_c _ N.length oM).mono ?_
  rintro e wr' ⟨rfl, rfl⟩
  by_cases hlt : k < parts N.length
  ·
   have hlt' : k * 20 < N.length := by unfold parts at hlt; omega
   have hOW := Lib.hid hown
   have O4 := OwnI.lit wr 2 [s.Num, s.State.Index, (k : Int), (N.length : Int)] (by simp)
   clear hown
   obtain ⟨z, hz⟩ : ∃ z : Nat, z = (k + 1) * 20 := ⟨_, rfl⟩
   have hzI : ((k : Int) + 1) * 20 = (z : Int) := by omega
   have hzl : z ≤ 200 := by omega
   have hzk : k * 20 < z := by omega
   have HZ := Lib.hid hz
   clear hz
   by_cases hfull : (z : Int) < (N.length : Int)
   ·
    have hfd : z < N.length := by omega
    have hpart := Lib.hid ((HIN.out.ext (he.trans ((Ext.refl wr).alloc (.cells #[.int .i64 s.Num, .int .i64 s.State.Index, .int .i64 k, .int .i64 N.length] 2)))).part hzk (Nat.le_of_lt hfd) hnc)
    have hnew : Hid ((N.take z).drop (k * 20) = (N.drop (k * 20)).take 20) := Lib.hid (by rw [HZ.out, List.drop_take]; congr 1; omega)
    have hnl : ((N.take z).drop (k * 20)).length ≤ 20 := by rw [hnew.out]; simp; omega
    go_wp2_with (first | (at_builtin; refine wp_append rfl (.tmp 31) (.tmp 40) 49 rfl 2 i0 _ 1 8 Tryz.underlying49 hi hz0 hz1 hz2 rfl dC wr.heap.size _ (([s.Num, s.State.Index, (k : Int), (N.length : Int)]).map (.int .i64)) rfl O4 _ (((N.take z).drop (k * 20)).map (.int .i64)) rfl hpart.out (ints_oneCell _ _) 1000000 (by simp only [List.length_map, List.length_append, List.length_cons, List.length_nil]; omega) (by unfold maxLen; omega) oM (by simp) wr ((Ext.refl wr).alloc _) (Nat.le_refl _) ?_; rotate_right; intro v5 w5 O5 E5 _; have O5 : OwnI wr.heap.size 2 1 w5 v5 ([s.Num, s.State.Index, (k : Int), (N.length : Int)] ++ (N.take z).drop (k * 20)) := (by simpa [OwnI] using O5); obtain ⟨b5, m5, c5, rfl⟩ := O5.shape; have KP5 := KPr.ext E5; have CP5 := KP5.cell; have hz5 := E5.size; have hp5 : w.heap.size < w5.heap.size := oM) | (at_builtin; refine wp_append rfl (.tmp 43) (.tmp 49) 49 rfl 2 i0 _ 1 8 Tryz.underlying49 hi hz0 hz1 hz2 rfl dC wr.heap.size _ (([s.Num, s.State.Index, (k : Int), (N.length : Int)] ++ (N.take z).drop (k * 20)).map (.int .i64)) rfl (Own.ext O5 ((Ext.refl w5).alloc _)) _ (([s.State.Index, s.Num]).map (.int .i64)) rfl (OwnI.lit w5 2 [s.State.Index, s.Num] (by simp)).ints (ints_oneCell _ _) 1000000 (by simp only [List.length_map, List.length_append, List.length_cons, List.length_nil]; omega) (by unfold maxLen; omega) oM (by simp; omega) wr (E5.alloc _) (Nat.le_refl _) ?_; rotate_right; intro v7 w7 O7 E7 _; have O7 : OwnI wr.heap.size 2 1 w7 v7 (shotRow s N k) := (by have e := hnew.out; simp only [shotRow]; rw [← e]; simpa [OwnI] using O7); obtain ⟨b7, m7, c7, rfl⟩ := O7.shape; have hz7 := E7.size) | (go_at_call 113; refine (withSum_c _ _ _ O7.ints).mono ?_; rintro e w8 ⟨_, rfl, hx8, g8⟩; obtain ⟨b8, m8, c8, rfl⟩ := g8.shape; have hz8 := hx8.size) | (at_builtin; refine wp_append_row (n := 0) (r := ([], withSum (shotRow s N k))) rfl _ _ 30 rfl j0 _ 24 Tryz.underlying30 hj hy0 hy1 hy2 rfl rfl ((hOW.out.ext (E7.trans hx8)).ext ((Ext.refl _).alloc _)) w8.heap.size rfl _ (Blk.new _ _ _) rfl rfl (g8.ext ((Ext.refl _).alloc _)) oM (fun q hq => Nat.lt_of_lt_of_le (hfo q hq).2 oM) 1000001 (by rw [hlen]; omega) (by unfold maxLen; omega) oM (by simp; omega) ?_; rotate_right; intro g cp wa hown1 hga hxa _))
    go_roundw
    case rel => exact ⟨k + 1, by omega, by go_num, hxa w2 ((he.trans (E7.trans hx8)).alloc _) (Nat.le_refl _), ss ++ [.slice b8 m8 c8], by have h9 := hown1; rw [hlen] at h9; rw [rowsTo_succ, nestI_snoc]; exact h9⟩
    case measure => simp [intOf]; omega
   have hfd : ¬ z < N.length := by omega
   have hpart := Lib.hid ((HIN.out.ext (he.trans ((Ext.refl wr).alloc (.cells #[.int .i64 s.Num, .int .i64 s.State.Index, .int .i64 k, .int .i64 N.length] 2)))).part hlt' (Nat.le_refl _) hnc)
   have hnew : Hid ((N.take N.length).drop (k * 20) = (N.drop (k * 20)).take 20) := Lib.hid (by rw [List.take_length, List.take_of_length_le]; rw [List.length_drop]; have := HZ.out; omega)
   have hnl : ((N.take N.length).drop (k * 20)).length ≤ 20 := by rw [hnew.out]; simp; omega
   go_wp2_with (first | (at_builtin; refine wp_append rfl (.tmp 31) (.tmp 40) 49 rfl 2 i0 _ 1 8 Tryz.underlying49 hi hz0 hz1 hz2 rfl dC wr.heap.size _ (([s.Num, s.State.Index, (k : Int), (N.length : Int)]).map (.int .i64)) rfl O4 _ (((N.take N.length).drop (k * 20)).map (.int .i64)) rfl hpart.out (ints_oneCell _ _) 1000000 (by simp only [List.length_map, List.length_append, List.length_cons, List.length_nil]; omega) (by unfold maxLen; omega) oM (by simp) wr ((Ext.refl wr).alloc _) (Nat.le_refl _) ?_; rotate_right; intro v5 w5 O5 E5 _; have O5 : OwnI wr.heap.size 2 1 w5 v5 ([s.Num, s.State.Index, (k : Int), (N.length : Int)] ++ (N.take N.length).drop (k * 20)) := (by simpa [OwnI] using O5); obtain ⟨b5, m5, c5, rfl⟩ := O5.shape; have KP5 := KPr.ext E5; have CP5 := KP5.cell; have hz5 := E5.size; have hp5 : w.heap.size < w5.heap.size := oM) | (at_builtin; refine wp_append rfl (.tmp 43) (.tmp 49) 49 rfl 2 i0 _ 1 8 Tryz.underlying49 hi hz0 hz1 hz2 rfl dC wr.heap.size _ (([s.Num, s.State.Index, (k : Int), (N.length : Int)] ++ (N.take N.length).drop (k * 20)).map (.int .i64)) rfl (Own.ext O5 ((Ext.refl w5).alloc _)) _ (([s.State.Index, s.Num]).map (.int .i64)) rfl (OwnI.lit w5 2 [s.State.Index, s.Num] (by simp)).ints (ints_oneCell _ _) 1000000 (by simp only [List.length_map, List.length_append, List.length_cons, List.length_nil]; omega) (by unfold maxLen; omega) oM (by simp; omega) wr (E5.alloc _) (Nat.le_refl _) ?_; rotate_right; intro v7 w7 O7 E7 _; have O7 : OwnI wr.heap.size 2 1 w7 v7 (shotRow s N k) := (by have e := hnew.out; simp only [shotRow]; rw [← e]; simpa [OwnI] using O7); obtain ⟨b7, m7, c7, rfl⟩ := O7.shape; have hz7 := E7.size) | (go_at_call 113; refine (withSum_c _ _ _ O7.ints).mono ?_; rintro e w8 ⟨_, rfl, hx8, g8⟩; obtain ⟨b8, m8, c8, rfl⟩ := g8.shape; have hz8 := hx8.size) | (at_builtin; refine wp_append_row (n := 0) (r := ([], withSum (shotRow s N k))) rfl _ _ 30 rfl j0 _ 24 Tryz.underlying30 hj hy0 hy1 hy2 rfl rfl ((hOW.out.ext (E7.trans hx8)).ext ((Ext.refl _).alloc _)) w8.heap.size rfl _ (Blk.new _ _ _) rfl rfl (g8.ext ((Ext.refl _).alloc _)) oM (fun q hq => Nat.lt_of_lt_of_le (hfo q hq).2 oM) 1000001 (by rw [hlen]; omega) (by unfold maxLen; omega) oM (by simp; omega) ?_; rotate_right; intro g cp wa hown1 hga hxa _))
   go_roundw
   case rel => exact ⟨k + 1, by omega, by go_num, hxa w2 ((he.trans (E7.trans hx8)).alloc _) (Nat.le_refl _), ss ++ [.slice b8 m8 c8], by have h9 := hown1; rw [hlen] at h9; rw [rowsTo_succ, nestI_snoc]; exact h9⟩
   case measure => simp [intOf]; omega
  obtain rfl : k = parts N.length := by omega
  go_wp2_with fail
  go_ret
  refine ⟨_, rfl, hE2.trans he, ?_⟩
  rw [show shotRows s = rowsTo s N (parts N.length) by simp [shotRows, HBB.out, HN.out]]
  exact ⟨_, ss, hown.mono oM, rfl⟩
theorem sShotRows_k {w : World} {v : Value} {s : DShot} (h : RdShot w v s) : Calls Tryz.prog 124 #[v] w (Ret w fun r w' => ∃ FF, OwRows w.heap.size w' r (shotRows s) FF) := by
 obtain ⟨t2, t3, rfl, h2, h3⟩ := h
 obtain ⟨a2, n2, k2, rfl⟩ := h2.shape
 obtain ⟨a3, n3, k3, rfl⟩ := h3.shape
 obtain ⟨i0, hi, hz0, hz1, hz2⟩ := info_parts info_Int64
 obtain ⟨j0, hj, hy0, hy1, hy2⟩ := info_parts info_Int64S
 have hE0 : Ext w (w.alloc (.cells #[.int .i64 s.Num, .int .i64 s.State.Index, .int .i64 s.State.Time, .slice a2 n2 k2, .slice a3 n3 k3, .int .i64 s.State.Lease.Holder, .int .i64 s.State.Lease.Epoch, .int .i64 s.State.Lease.Until] 78)) := (Ext.refl _).alloc _
 have B0 : Blk (w.alloc (.cells #[.int .i64 s.Num, .int .i64 s.State.Index, .int .i64 s.State.Time, .slice a2 n2 k2, .slice a3 n3 k3, .int .i64 s.State.Lease.Holder, .int .i64 s.State.Lease.Epoch, .int .i64 s.State.Lease.Until] 78)) w.heap.size 78 #[.int .i64 s.Num, .int .i64 s.State.Index, .int .i64 s.State.Time, .slice a2 n2 k2, .slice a3 n3 k3, .int .i64 s.State.Lease.Holder, .int .i64 s.State.Lease.Epoch, .int .i64 s.State.Lease.Until] := Blk.new _ _ _
 go_enter Tryz.func124, Tryz.ntmps124
 go_wp2_with fail
 refine (sShotOk_c _ s.Num s.State.Index s.State.Time _ s.State.Pairs _ s.State.Jobs s.State.Lease.Holder s.State.Lease.Epoch s.State.Lease.Until (h2.ext (hE0.alloc _)) (h3.ext (hE0.alloc _))).mono ?_
 rintro e w1 ⟨rfl, hx1⟩
 have KP1 := (B0.alloc (.cells #[] 49)).ext hx1
 have CP1 := KP1.cell
 have hE1 : Ext w w1 := Ext.trans (hE0.alloc _) hx1
 have hzz := hx1.size
 simp only [World.size_alloc] at hzz
 have hp1 : w.heap.size < w1.heap.size := by omega
 have hp1' : w.heap.size + 1 < w1.heap.size := by omega
 have hO1 : OwnNs (w.heap.size + 1) 49 2 0 w1 (.slice (some ⟨w.heap.size + 1, 0, none⟩) 0 0) [] [] := OwnNs.ext (by have := OwnNs.made0 (w.alloc (.cells #[.int .i64 s.Num, .int .i64 s.State.Index, .int .i64 s.State.Time, .slice a2 n2 k2, .slice a3 n3 k3, .int .i64 s.State.Lease.Holder, .int .i64 s.State.Lease.Epoch, .int .i64 s.State.Lease.Until] 78)) 49 2 0 0 #[] (by simp) dC; rw [World.size_alloc] at this; exact this) hx1
 clear hx1 B0
 cases hb : shotOk s
 ·
  go_wp2_with fail
  go_ret
  exact ⟨_, rfl, hE1, _, [], by rw [show shotRows s = [] by simp [shotRows, hb]]; exact hO1.mono oM, rfl⟩
 have HBB := Lib.hid hb
 have hst := (shotOk_parts hb).2.2.1
 have hnb := stateNums_bound hst
 clear hb
 go_wp2_with fail
 refine (sStateNumbers_c _ s.State _ _ (h2.ext hE1) (h3.ext hE1)).mono ?_
 rintro e w2 ⟨_, rfl, hx2, o2⟩
 rw [show stateNumbers s.State = stateNums s.State by simp [stateNumbers, hst]] at o2
 obtain ⟨N, hN⟩ : ∃ N, N = stateNums s.State := ⟨_, rfl⟩
 rw [← hN] at o2 hnb
 obtain ⟨na, nc, rfl, hnc, hnm, hna⟩ := o2.ints.one
 have hNO : OwnI w.heap.size 2 1 w2 (.slice na N.length nc) N := OwnI.mono o2 oM
 unfold maxLen at hnm
 have hE2 : Ext w w2 := hE1.trans hx2
 have KP2 := KP1.ext hx2
 have hz2' := hx2.size
 have hO2 := hO1.ext hx2
 have HN := Lib.hid hN
 have hst' := Lib.hid hst
 clear CP1 hna o2 hN hst hO1
 go_wp2_with fail
 go_loopw [3, 5] (fun rows part wr => ∃ k : Nat, k ≤ parts N.length ∧ part = .int .i64 k ∧ Ext w wr ∧ Blk wr w.heap.size 78 #[.int .i64 s.Num, .int .i64 s.State.Index, .int .i64 s.State.Time, .slice a2 n2 k2, .slice a3 n3 k3, .int .i64 s.State.Lease.Holder, .int .i64 s.State.Lease.Epoch, .int .i64 s.State.Lease.Until] ∧ OwnI w.heap.size 2 1 wr (.slice na N.length nc) N ∧ w2.heap.size ≤ wr.heap.size ∧ ∃ ss, OwnNs (w.heap.size + 1) 49 2 0 wr rows (nestInt64S (rowsTo s N k)) ss) (fun _ part _ => parts N.length - (intOf part).toNat)
 case atStart => exact ⟨0, Nat.zero_le _, rfl, hE2, KP2, hNO, Nat.le_refl _, [], by simpa [nestInt64S, rowsTo] using hO2⟩
 case round =>
  obtain ⟨k, hk, rfl, he0, KPr, NO, hzr, ss, hown⟩ := hrel
  obtain ⟨wo, hwo⟩ : ∃ wo, wo = wr := ⟨_, rfl⟩
  subst hwo
  obtain ⟨ra, rn, rc, rfl⟩ := hown.nest.shape
  have hp4 : parts N.length ≤ 5 := by unfold parts; omega
  have CPr := KPr.cell
  have hne := own_ne NO hown dC
  have hneb : some w.heap.size ≠ (Value.slice ra rn rc).ownBlock := fun e => by have := (Own.lt hown.2.2.1 e.symm).1; omega
  obtain ⟨_, _, e9, _, _, hna⟩ := (OwnI.ints NO).one
  injection e9 with e91 _ e93; subst e91; subst e93
  have HNA := Lib.hid hna
  have HNO := Lib.hid NO
  clear hna NO
  have hpr : w.heap.size + 1 < wo.heap.size := by omega
  have hpr' : w.heap.size < wo.heap.size := by omega
  have hfo := hown.foot
  have hlen : (nestInt64S (rowsTo s N k)).length = k := by simp [nestInt64S, rowsTo]
  by_cases hlt : k * 20 < N.length
  ·
   have hlt' : k < parts N.length := by unfold parts; omega
   have hOW := Lib.hid hown
   obtain ⟨H4, hH4⟩ : ∃ H4 : List Int, H4 = [s.Num, s.State.Index, (k : Int), (N.length : Int)] := ⟨_, rfl⟩
   have O4 := OwnI.lit wo 2 [s.Num, s.State.Index, (k : Int), (N.length : Int)] (by simp)
   rw [← hH4] at O4
   have hl4 : H4.length = 4 := by rw [hH4]; rfl
   rw [hl4] at O4
   have hkI : (k : Int) * 20 < (N.length : Int) := by omega
   have HH4 := Lib.hid hH4
   have W4 : H4.map (Value.int .i64) = [.int .i64 s.Num, .int .i64 s.State.Index, .int .i64 k, .int .i64 N.length] := by rw [hH4]; rfl
   rw [W4] at O4
   clear hown hH4 W4
   go_wp2_with fail
   obtain ⟨wq, hwq⟩ : ∃ wq, wq = wo.alloc (.cells #[.int .i64 s.Num, .int .i64 s.State.Index, .int .i64 k, .int .i64 N.length] 2) := ⟨_, rfl⟩
   have hEq : Ext wo wq := by rw [hwq]; exact (Ext.refl _).alloc _
   have hO4 : OwnI wo.heap.size 2 1 wq (.slice (some ⟨wo.heap.size, 0, none⟩) 4 4) H4 := by rw [hwq]; exact O4
   rw [← hwq]
   clear hwq O4
   go_loopw [6, 7] (fun row i ws => ∃ j : Nat, j ≤ 20 ∧ k * 20 + j ≤ N.length ∧ i = .int .i64 ((k * 20 + j : Nat) : Int) ∧ Ext wo ws ∧ OwnI wo.heap.size 2 1 ws row (H4 ++ (N.drop (k * 20)).take j)) (fun _ i _ => N.length - (intOf i).toNat)
   case atStart => exact ⟨0, by omega, by omega, by go_num, hEq, by simpa using hO4⟩
   case round =>
    obtain ⟨j, hj1, hj2, rfl, hes, hO⟩ := hrel
    obtain ⟨ws, hws⟩ : ∃ ws, ws = wr := ⟨_, rfl⟩
    subst hws
    obtain ⟨qa, qn, qc, rfl⟩ := hO.shape
    have hzs := hes.size
    have hjl : ((N.drop (k * 20)).take j).length = j := by simp; omega
    obtain ⟨i, hi'⟩ : ∃ i : Nat, i = k * 20 + j := ⟨_, rfl⟩
    obtain ⟨z, hz⟩ : ∃ z : Nat, z = (k + 1) * 20 := ⟨_, rfl⟩
    have hzI : ((k : Int) + 1) * 20 = (z : Int) := by omega
    have hzl : z ≤ 200 := by omega
    rw [← hi']
    rw [← hi'] at hj2
    by_cases hA : i < N.length
    ·
     by_cases hB : i < z
     ·
      have hA' : ((i : Nat) : Int) < (N.length : Int) := by omega
      have hB' : ((i : Nat) : Int) < (z : Int) := by omega
      obtain ⟨x, b1, q1, hx, rfl, hb1, c⟩ := HNA.out i hA
      have d0 := hes.cell c
      have HX := Lib.hid hx; have HI := Lib.hid hi'; have HZ := Lib.hid hz
      have hjj : j < 20 := by omega
      have HO := Lib.hid hO
      clear hx c hi' hz hO CPr
      go_wp2_with (first | (at_builtin; refine wp_append rfl (.tmp 47) (.tmp 52) 49 rfl 2 i0 _ 1 8 Tryz.underlying49 hi hz0 hz1 hz2 rfl dC wo.heap.size _ ((H4 ++ (N.drop (k * 20)).take j).map (.int .i64)) rfl (Own.ext HO.out ((Ext.refl ws).alloc _)) _ (([x]).map (.int .i64)) rfl (OwnI.lit ws 2 [x] (by simp)).ints (ints_oneCell _ _) 1000000 (by simp only [List.length_map, List.length_append, List.length_cons, List.length_nil]; omega) (by unfold maxLen; omega) oM (by simp; omega) wo (hes.alloc _) (Nat.le_refl _) ?_; rotate_right; intro v5 w5 O5 E5 _))
      go_roundw
      case rel =>
       refine ⟨j + 1, by omega, by have := HI.out; omega, by rw [HI.out]; go_num, E5, ?_⟩
       have hg : (N.drop (k * 20))[j]? = some x := by rw [List.getElem?_drop, ← HI.out]; exact HX.out
       rw [take_snoc hg, ← List.append_assoc]
       simpa [OwnI] using O5
      case measure => have := HI.out; simp [intOf]; omega
     have hA' : ((i : Nat) : Int) < (N.length : Int) := by omega
     have hB' : ¬ ((i : Nat) : Int) < (z : Int) := by omega
     have hfin : (N.drop (k * 20)).take j = (N.drop (k * 20)).take 20 := by rw [show j = 20 by omega]
     have HF := Lib.hid hfin
     have CPs := (KPr.ext hes).cell
     have hps : w.heap.size < ws.heap.size := by omega
     have HO := Lib.hid hO
     clear hfin hi' hz hO CPr
     go_wp2_with (first | (at_builtin; refine wp_append rfl (.tmp 55) (.tmp 61) 49 rfl 2 i0 _ 1 8 Tryz.underlying49 hi hz0 hz1 hz2 rfl dC wo.heap.size _ ((H4 ++ (N.drop (k * 20)).take j).map (.int .i64)) rfl (Own.ext HO.out ((Ext.refl ws).alloc _)) _ (([s.State.Index, s.Num]).map (.int .i64)) rfl (OwnI.lit ws 2 [s.State.Index, s.Num] (by simp)).ints (ints_oneCell _ _) 1000000 (by simp only [List.length_map, List.length_append, List.length_cons, List.length_nil]; omega) (by unfold maxLen; omega) oM (by simp; omega) wo (hes.alloc _) (Nat.le_refl _) ?_; rotate_right; intro v7 w7 O7 E7 _; have O7 : OwnI wo.heap.size 2 1 w7 v7 (shotRow s N k) := (by have e := HF.out; have e4 := HH4.out; simp only [shotRow]; rw [← e, ← e4]; simpa [OwnI] using O7); obtain ⟨b7, m7, c7, rfl⟩ := O7.shape; have hz7 := E7.size) | (go_at_call 164; refine (sWithSum_c _ _ _ O7.ints).mono ?_; rintro e w8 ⟨_, rfl, hx8, g8⟩; obtain ⟨b8, m8, c8, rfl⟩ := g8.shape; have hz8 := hx8.size) | (at_builtin; refine wp_append_row (n := 0) (r := ([], withSum (shotRow s N k))) rfl _ _ 30 rfl j0 _ 24 Tryz.underlying30 hj hy0 hy1 hy2 rfl rfl ((hOW.out.ext (E7.trans hx8)).ext ((Ext.refl _).alloc _)) w8.heap.size rfl _ (Blk.new _ _ _) rfl rfl (g8.ext ((Ext.refl _).alloc _)) oM (fun q hq => Nat.lt_of_lt_of_le (hfo q hq).2 oM) 1000001 (by rw [hlen]; omega) (by unfold maxLen; omega) oM (by simp; omega) ?_; rotate_right; intro g cp wa hown1 hga hxa _))
     go_roundw
     case rel => exact ⟨k + 1, by omega, by go_num, hxa w (he0.trans ((E7.trans hx8).alloc _)) oM, Blk.grown ((KPr.ext (E7.trans hx8)).alloc _) hga hneb, Own.kept (Own.ext HNO.out ((E7.trans hx8).alloc _)) hga hne, by have := hga.size; simp only [World.size_alloc] at this; omega, ss ++ [.slice b8 m8 c8], by have h9 := hown1; rw [hlen] at h9; rw [rowsTo_succ, nestI_snoc]; exact h9⟩
     case measure => simp [intOf]; omega
    have hA' : ¬ ((i : Nat) : Int) < (N.length : Int) := by omega
    have hfin : (N.drop (k * 20)).take j = (N.drop (k * 20)).take 20 := by rw [List.take_of_length_le (by rw [List.length_drop]; omega), List.take_of_length_le (by rw [List.length_drop]; omega)]
    have HF := Lib.hid hfin
    have CPs := (KPr.ext hes).cell
    have hps : w.heap.size < ws.heap.size := by omega
    have HO := Lib.hid hO
    clear hfin hi' hz hO CPr
    go_wp2_with (first | (at_builtin; refine wp_append rfl (.tmp 55) (.tmp 61) 49 rfl 2 i0 _ 1 8 Tryz.underlying49 hi hz0 hz1 hz2 rfl dC wo.heap.size _ ((H4 ++ (N.drop (k * 20)).take j).map (.int .i64)) rfl (Own.ext HO.out ((Ext.refl ws).alloc _)) _ (([s.State.Index, s.Num]).map (.int .i64)) rfl (OwnI.lit ws 2 [s.State.Index, s.Num] (by simp)).ints (ints_oneCell _ _) 1000000 (by simp only [List.length_map, List.length_append, List.length_cons, List.length_nil]; omega) (by unfold maxLen; omega) oM (by simp; omega) wo (hes.alloc _) (Nat.le_refl _) ?_; rotate_right; intro v7 w7 O7 E7 _; have O7 : OwnI wo.heap.size 2 1 w7 v7 (shotRow s N k) := (by have e := HF.out; have e4 := HH4.out; simp only [shotRow]; rw [← e, ← e4]; simpa [OwnI] using O7); obtain ⟨b7, m7, c7, rfl⟩ := O7.shape; have hz7 := E7.size) | (go_at_call 164; refine (sWithSum_c _ _ _ O7.ints).mono ?_; rintro e w8 ⟨_, rfl, hx8, g8⟩; obtain ⟨b8, m8, c8, rfl⟩ := g8.shape; have hz8 := hx8.size) | (at_builtin; refine wp_append_row (n := 0) (r := ([], withSum (shotRow s N k))) rfl _ _ 30 rfl j0 _ 24 Tryz.underlying30 hj hy0 hy1 hy2 rfl rfl ((hOW.out.ext (E7.trans hx8)).ext ((Ext.refl _).alloc _)) w8.heap.size rfl _ (Blk.new _ _ _) rfl rfl (g8.ext ((Ext.refl _).alloc _)) oM (fun q hq => Nat.lt_of_lt_of_le (hfo q hq).2 oM) 1000001 (by rw [hlen]; omega) (by unfold maxLen; omega) oM (by simp; omega) ?_; rotate_right; intro g cp wa hown1 hga hxa _))
    go_roundw
    case rel => exact ⟨k + 1, by omega, by go_num, hxa w (he0.trans ((E7.trans hx8).alloc _)) oM, Blk.grown ((KPr.ext (E7.trans hx8)).alloc _) hga hneb, Own.kept (Own.ext HNO.out ((E7.trans hx8).alloc _)) hga hne, by have := hga.size; simp only [World.size_alloc] at this; omega, ss ++ [.slice b8 m8 c8], by have h9 := hown1; rw [hlen] at h9; rw [rowsTo_succ, nestI_snoc]; exact h9⟩
    case measure => simp [intOf]; omega
  obtain rfl : k = parts N.length := by unfold parts at hk ⊢; omega
  have hlt' : ¬ ((parts N.length : Nat) : Int) * 20 < (N.length : Int) := by omega
  go_wp2_with fail
  go_ret
  refine ⟨_, rfl, he0, ?_⟩
  rw [show shotRows s = rowsTo s N (parts N.length) by simp [shotRows, HBB.out, HN.out]]
  exact ⟨_, ss, hown.mono oM, rfl⟩
end Go.Proofs.YtlnkggpemdpemaaGreat
namespace Go.G8
open Go.RowKit
theorem take_eq_next {l m : List Int} {k : Nat} {x y : Int} (hx : l[k]? = some x) (hy : m[k]? = some y) (h : l.take k = m.take k) (e : x = y) : l.take (k + 1) = m.take (k + 1) := by
 rw [List.take_add_one, List.take_add_one, hx, hy, h, e]
end Go.G8
namespace Go.Proofs.YtlnkggpemdpemaaGreat
open Go.RowKit Go.G8
theorem sSameRow_c (w : World) (v u : Value) (l m : List Int) (h : Ints 1 w v l) (k : Ints 1 w u m) :
  Calls Tryz.prog 125 #[v, u] w (RetV w (.bool (decide (l = m)))) := by
 obtain ⟨a, c, rfl, hc, hm, ha⟩ := h.one
 obtain ⟨b, d, rfl, hd, hn, hb⟩ := k.one
 have HA := Lib.hid ha; have HB := Lib.hid hb
 clear ha hb h k
 unfold maxLen at hm hn
 by_cases hl : l.length = m.length
 rotate_left
 ·
  have hd' : decide (l = m) = false := by simp; intro e; exact hl (by rw [e])
  have hb1 : ((l.length : Int) == (m.length : Int)) = false := by simp; omega
  have hb2 : decide ((l.length : Int) = (m.length : Int)) = false := by simp; omega
  have HD := Lib.hid hd'
  clear hl hd'
  go_enter Tryz.func125, Tryz.ntmps125
  go_wp2
  go_ret
  refine ⟨by rw [HD.out]; rfl, ?_⟩
  exact xT
 obtain ⟨N, hN⟩ : ∃ N, N = m.length := ⟨_, rfl⟩
 rw [← hN] at hl HB hd ⊢
 rw [hl] at HA hc ⊢
 have HL := Lib.hid hl; have HN := Lib.hid hN
 clear hl hN
 go_enter Tryz.func125, Tryz.ntmps125
 go_wp2_with fail
 go_loopw [5] (fun i wr => ∃ k : Nat, k ≤ N ∧ i = .int .i64 k ∧ Ext w wr ∧ Hid (l.take k = m.take k)) (fun i _ => N - (intOf i).toNat)
 case atStart => exact ⟨0, Nat.zero_le _, rfl, Ext.refl _, Lib.hid (by simp)⟩
 case round =>
  obtain ⟨k, hk, rfl, he, ht⟩ := hrel
  by_cases hlt : k < N
  ·
   obtain ⟨x, b1, o1, hx, rfl, hb1, c1⟩ := HA.out k hlt
   obtain ⟨y, b2, o2, hy, rfl, hb2, c2⟩ := HB.out k hlt
   have d1 := he.cell c1
   have d2 := he.cell c2
   have HX := Lib.hid hx; have HY := Lib.hid hy
   clear hx hy
   by_cases hxy : x = y
   ·
    subst hxy
    go_wp2_with fail
    go_quiet (fail)
    go_wp2_with fail
    go_roundw
    case rel => exact ⟨k + 1, by omega, by go_num, xT, Lib.hid (take_eq_next HX.out HY.out ht.out rfl)⟩
    case measure => simp [intOf]; omega
   have hb1' : (x == y) = false := by simp [hxy]
   have hne : decide (l = m) = false := by
    simp only [decide_eq_false_iff_not]
    intro e
    have h1 := HX.out; have h2 := HY.out
    rw [e, h2] at h1
    exact hxy (Option.some.inj h1).symm
   have HD := Lib.hid hne
   clear hne
   go_wp2_with fail
   go_quiet (fail)
   go_wp2_with fail
   go_ret
   refine ⟨by rw [HD.out]; rfl, ?_⟩
   exact xT
  obtain rfl : k = N := by omega
  have hd' : decide (l = m) = true := by
   have h1 := ht.out
   rw [List.take_of_length_le (by rw [HL.out]; omega), List.take_of_length_le (by rw [← HN.out]; omega)] at h1
   simp [h1]
  have HD := Lib.hid hd'
  clear hd'
  go_wp2_with fail
  go_ret
  refine ⟨by rw [HD.out]; rfl, ?_⟩
  exact xT
theorem slEqual_c (w : World) (v u : Value) (l m : List Int) (h : Ints 1 w v l) (k : Ints 1 w u m) :
  Calls Tryz.prog 157 #[v, u] w (RetV w (.bool (decide (l = m)))) := by
 obtain ⟨a, c, rfl, hc, hm, ha⟩ := h.one
 obtain ⟨b, d, rfl, hd, hn, hb⟩ := k.one
 have HA := Lib.hid ha; have HB := Lib.hid hb
 clear ha hb h k
 unfold maxLen at hm hn
 by_cases hl : l.length = m.length
 rotate_left
 ·
  have hd' : decide (l = m) = false := by simp; intro e; exact hl (by rw [e])
  have hb1 : ((l.length : Int) == (m.length : Int)) = false := by simp; omega
  have hb2 : decide ((l.length : Int) = (m.length : Int)) = false := by simp; omega
  have HD := Lib.hid hd'
  clear hl hd'
  go_enter Tryz.func157, Tryz.ntmps157
  go_wp2
  go_ret
  refine ⟨by rw [HD.out]; rfl, ?_⟩
  exact xT
 obtain ⟨N, hN⟩ : ∃ N, N = m.length := ⟨_, rfl⟩
 rw [← hN] at hl HB hd ⊢
 rw [hl] at HA hc ⊢
 have HL := Lib.hid hl; have HN := Lib.hid hN
 clear hl hN
 go_enter Tryz.func157, Tryz.ntmps157
 go_wp2_with fail
 go_loopw [13] (fun i wr => ∃ k : Nat, k ≤ N ∧ i = .int .i64 k ∧ Ext w wr ∧ Hid (l.take k = m.take k)) (fun i _ => N - (intOf i).toNat)
 case atStart => exact ⟨0, Nat.zero_le _, rfl, Ext.refl _, Lib.hid (by simp)⟩
 case round =>
  obtain ⟨k, hk, rfl, he, ht⟩ := hrel
  by_cases hlt : k < N
  ·
   obtain ⟨x, b1, o1, hx, rfl, hb1, c1⟩ := HA.out k hlt
   obtain ⟨y, b2, o2, hy, rfl, hb2, c2⟩ := HB.out k hlt
   have d1 := he.cell c1
   have d2 := he.cell c2
   have HX := Lib.hid hx; have HY := Lib.hid hy
   clear hx hy
   by_cases hxy : x = y
   ·
    subst hxy
    go_wp2_with fail
    go_quiet (fail)
    go_wp2_with fail
    go_roundw
    case rel => exact ⟨k + 1, by omega, by go_num, xT, Lib.hid (take_eq_next HX.out HY.out ht.out rfl)⟩
    case measure => simp [intOf]; omega
   have hb1' : (x == y) = false := by simp [hxy]
   have hne : decide (l = m) = false := by
    simp only [decide_eq_false_iff_not]
    intro e
    have h1 := HX.out; have h2 := HY.out
    rw [e, h2] at h1
    exact hxy (Option.some.inj h1).symm
   have HD := Lib.hid hne
   clear hne
   go_wp2_with fail
   go_quiet (fail)
   go_wp2_with fail
   go_ret
   refine ⟨by rw [HD.out]; rfl, ?_⟩
   exact xT
  obtain rfl : k = N := by omega
  have hd' : decide (l = m) = true := by
   have h1 := ht.out
   rw [List.take_of_length_le (by rw [HL.out]; omega), List.take_of_length_le (by rw [← HN.out]; omega)] at h1
   simp [h1]
  have HD := Lib.hid hd'
  clear hd'
  go_wp2_with fail
  go_ret
  refine ⟨by rw [HD.out]; rfl, ?_⟩
  exact xT
theorem sameRow_c (w : World) (v u : Value) (l m : List Int) (h : Ints 1 w v l) (k : Ints 1 w u m) :
  Calls Tryz.prog 121 #[v, u] w (RetV w (.bool (decide (l = m)))) := by
 go_enter Tryz.func121, Tryz.ntmps121
 go_wp2_with fail
 refine (slEqual_c _ v u l m h k).mono ?_
 rintro e w1 ⟨rfl, hx1⟩
 go_wp2_with fail
 go_ret
 exact ⟨rfl, hx1⟩
end Go.Proofs.YtlnkggpemdpemaaGreat
