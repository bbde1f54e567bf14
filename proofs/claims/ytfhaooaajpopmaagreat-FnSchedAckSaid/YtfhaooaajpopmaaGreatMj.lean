/- Contracts and plain laws: Ef Rd1 SP SJ SJ2 Gr Nx Fi Gt Eo ApM PJ JA Fi2 JF Gt2. -/
import Derived.Test.YtfhaooaajpopmaaGreatMd
import Derived.Test.YtfhaooaajpopmaaGreatMa
import Derived.Test.YtfhaooaajpopmaaGreatMb
import Derived.Test.YtfhaooaajpopmaaGreatMf
import Derived.Test.YtfhaooaajpopmaaGreatMe
set_option linter.unusedSimpArgs false
set_option linter.unusedVariables false
set_option maxHeartbeats 8000000
set_option maxRecDepth 100000
namespace Go.G8
open Go.RowKit Go.Proofs.YtfhaooaajpopmaaGreat
def Srt {α : Type} (key : α → Int) (l : List α) : Prop := l.Pairwise (fun a b => key a < key b)
theorem srt_of_adj {α : Type} {key : α → Int} {l : List α} (h : ∀ i d e, l[i + 1]? = some d → l[i]? = some e → key e < key d) : Srt key l := by
 have h1 : ∀ n i d e, l[i + n + 1]? = some d → l[i]? = some e → key e < key d := by
  intro n
  induction n with
  | zero => intro i d e hd he; exact h i d e hd he
  | succ n ih =>
   intro i d e hd he
   have hlt : i + n + 1 < l.length := by
    have := (List.getElem?_eq_some_iff.1 hd).1
    omega
   have hm : l[i + n + 1]? = some l[i + n + 1] := List.getElem?_eq_getElem hlt
   have h2 := ih i _ e hm he
   have h3 := h (i + n + 1) d _ hd hm
   omega
 unfold Srt
 rw [List.pairwise_iff_getElem]
 intro i j hi hj hij
 exact h1 (j - i - 1) i l[j] l[i] (by rw [show i + (j - i - 1) + 1 = j by omega]; exact List.getElem?_eq_getElem hj) (List.getElem?_eq_getElem hi)
theorem srt_adj {α : Type} {key : α → Int} {l : List α} (h : Srt key l) {i j : Nat} {d e : α} (hd : l[j]? = some d) (he : l[i]? = some e) (hij : i < j) : key e < key d := by
 unfold Srt at h
 rw [List.pairwise_iff_getElem] at h
 obtain ⟨h1, rfl⟩ := List.getElem?_eq_some_iff.1 hd
 obtain ⟨h2, rfl⟩ := List.getElem?_eq_some_iff.1 he
 exact h i j h2 h1 hij
def low {α : Type} (key : α → Int) (x : Int) (l : List α) : List α := l.filter (fun a => decide (key a < x))
def high {α : Type} (key : α → Int) (x : Int) (l : List α) : List α := l.filter (fun a => decide (x < key a))
def at_ {α : Type} (key : α → Int) (x : Int) (l : List α) : Option α := l.find? (fun a => decide (key a = x))
section
variable {α : Type} {key : α → Int} {l : List α} {x : Int} {k : Nat}
theorem filter_all {p : α → Bool} (h : ∀ a, a ∈ l → p a = true) : l.filter p = l := List.filter_eq_self.2 h
theorem filter_no {p : α → Bool} (h : ∀ a, a ∈ l → p a = false) : l.filter p = [] := by
 rw [List.filter_eq_nil_iff]
 intro a ha
 rw [h a ha]
 simp
theorem low_take (h : Srt key l) (h1 : ∀ i a, i < k → l[i]? = some a → key a < x) (h2 : ∀ a, l[k]? = some a → x ≤ key a) : low key x l = l.take k ∧ (l.drop k).filter (fun a => decide (x < key a)) = high key x l ∧ ∀ a, a ∈ l.drop k → x ≤ key a := by
 have a1 : ∀ a, a ∈ l.take k → key a < x := by
  intro a ha
  obtain ⟨i, hi⟩ := List.mem_iff_getElem?.1 ha
  rw [List.getElem?_take] at hi
  split at hi
  ·
   rename_i hk; exact h1 i a hk hi
  cases hi
 have a2 : ∀ a, a ∈ l.drop k → x ≤ key a := by
  intro a ha
  obtain ⟨i, hi⟩ := List.mem_iff_getElem?.1 ha
  rw [List.getElem?_drop] at hi
  have hlt := (List.getElem?_eq_some_iff.1 hi).1
  have h3 := h2 l[k] (List.getElem?_eq_getElem oM)
  rcases Nat.eq_zero_or_pos i with rfl | hp
  ·
   rw [Nat.add_zero] at hi
   exact h2 a hi
  have := srt_adj h hi (List.getElem?_eq_getElem oM) (show k < k + i by omega)
  omega
 refine ⟨?_, ?_, a2⟩
 ·
  unfold low
  conv => lhs; rw [← List.take_append_drop k l]
  rw [List.filter_append, filter_all (fun a ha => by simpa using a1 a ha), filter_no (fun a ha => by have := a2 a ha; simp; omega), List.append_nil]
 unfold high
 conv => rhs; rw [← List.take_append_drop k l]
 rw [List.filter_append, filter_no (l := l.take k) (fun a ha => by have := a1 a ha; simp; omega), List.nil_append]
theorem set_at {d : α} (h : Srt key l) (hd : l[k]? = some d) (he : key d = x) : low key x l = l.take k ∧ high key x l = l.drop (k + 1) ∧ at_ key x l = some d ∧ l.filter (fun a => decide (key a ≠ x)) = l.take k ++ l.drop (k + 1) := by
 have hk := (List.getElem?_eq_some_iff.1 hd).1
 have h1 : ∀ i a, i < k → l[i]? = some a → key a < x := fun i a hi ha => by have := srt_adj h hd ha hi; omega
 obtain ⟨g1, g2, g3⟩ := low_take h h1 (fun a ha => by rw [hd] at ha; obtain rfl := Option.some.inj ha; omega)
 have hdr : l.drop k = d :: l.drop (k + 1) := by
  rw [List.drop_eq_getElem_cons hk]
  rw [(List.getElem?_eq_some_iff.1 hd).2]
 have a2 : ∀ a, a ∈ l.drop (k + 1) → x < key a := by
  intro a ha
  obtain ⟨i, hi⟩ := List.mem_iff_getElem?.1 ha
  rw [List.getElem?_drop] at hi
  have := srt_adj h hi hd (show k < k + 1 + i by omega)
  omega
 have a1 : ∀ a, a ∈ l.take k → key a < x := by
  intro a ha
  obtain ⟨i, hi⟩ := List.mem_iff_getElem?.1 ha
  rw [List.getElem?_take] at hi
  split at hi
  ·
   rename_i hk; exact h1 i a hk hi
  cases hi
 refine ⟨g1, ?_, ?_, ?_⟩
 ·
  rw [← g2, hdr, List.filter_cons, if_neg (by simp; omega)]
  exact filter_all (fun a ha => by simpa using a2 a ha)
 ·
  unfold at_
  conv => lhs; rw [← List.take_append_drop k l, hdr]
  rw [List.find?_append, List.find?_eq_none.2 (fun a ha => by have := a1 a ha; simp; omega), List.find?_cons]
  simp [he]
 conv => lhs; rw [← List.take_append_drop k l, hdr]
 rw [List.filter_append, List.filter_cons, if_neg (by simp [he]), filter_all (fun a ha => by have := a1 a ha; simp; omega), filter_all (fun a ha => by have := a2 a ha; simp; omega)]
theorem low_next (h : Srt key l) (n : Int) : low key (n + 1) l = low key n l ++ (at_ key n l).toList := by
 unfold low at_
 induction l with
 | nil => rfl
 | cons a t ih =>
  have ht : Srt key t := List.Pairwise.of_cons h
  have ha : ∀ b, b ∈ t → key a < key b := (List.pairwise_cons.1 h).1
  rcases Int.lt_trichotomy (key a) n with h1 | h1 | h1
  ·
   rw [List.filter_cons, if_pos (by simp; omega), List.filter_cons, if_pos (by simp; omega), List.find?_cons]
   rw [show decide (key a = n) = false by simp; omega]
   rw [ih ht]; rfl
  ·
   rw [List.filter_cons, if_pos (by simp; omega), List.filter_cons, if_neg (by simp; omega), List.find?_cons]
   rw [show decide (key a = n) = true by simp; omega]
   rw [filter_no (fun b hb => by have := ha b hb; simp; omega), filter_no (fun b hb => by have := ha b hb; simp; omega)]; rfl
  rw [List.filter_cons, if_neg (by simp; omega), List.filter_cons, if_neg (by simp; omega), List.find?_cons]
  rw [show decide (key a = n) = false by simp; omega]
  rw [ih ht]
theorem low_all (h : ∀ a, a ∈ l → key a < x) : low key x l = l := filter_all (fun a ha => by simpa using h a ha)
theorem low_none (h : ∀ a, a ∈ l → x ≤ key a) : low key x l = [] := filter_no (fun a ha => by have := h a ha; simp; omega)
def ins (key : α → Int) (l : List α) (d : α) : List α := low key (key d) l ++ d :: high key (key d) l
theorem mem_low {a : α} : a ∈ low key x l ↔ a ∈ l ∧ key a < x := by simp [low]
theorem mem_high {a : α} : a ∈ high key x l ↔ a ∈ l ∧ x < key a := by simp [high]
theorem ins_srt (h : Srt key l) (d : α) : Srt key (ins key l d) := by
 unfold Srt ins
 rw [List.pairwise_append]
 refine ⟨List.Pairwise.filter _ h, List.pairwise_cons.2 ⟨fun b hb => (mem_high.1 hb).2, List.Pairwise.filter _ h⟩, ?_⟩
 intro a ha b hb
 have h1 := (mem_low.1 ha).2
 rcases List.mem_cons.1 hb with rfl | hb
 ·
  exact h1
 have := (mem_high.1 hb).2; omega
theorem ins_mem {a d : α} (h : a ∈ ins key l d) : a ∈ l ∨ a = d := by
 unfold ins at h
 rcases List.mem_append.1 h with h | h
 ·
  exact .inl (mem_low.1 h).1
 rcases List.mem_cons.1 h with rfl | h
 ·
  exact .inr rfl
 exact .inl (mem_high.1 h).1
theorem find_filter (p q : α → Bool) : ∀ (l : List α), (∀ a, q a = true → p a = true) → (l.filter p).find? q = l.find? q
 | [], _ => rfl
 | a :: t, h => by
  rw [List.filter_cons]
  by_cases hp : p a = true
  ·
   rw [if_pos hp, List.find?_cons, List.find?_cons, find_filter p q t h]
  rw [if_neg hp, List.find?_cons]
  have hq : q a = false := by
   cases hq : q a
   ·
    rfl
   exact absurd (h a hq) hp
  rw [hq, find_filter p q t h]
theorem find_no (p q : α → Bool) (h : ∀ a, p a = true → q a = false) : (l.filter p).find? q = none := by
 rw [List.find?_eq_none]
 intro a ha
 rw [h a (List.mem_filter.1 ha).2]
 simp
theorem ins_at_key (d : α) (n : Int) : at_ key n (ins key l d) = if n = key d then some d else at_ key n l := by
 unfold at_ ins low high
 rw [List.find?_append, List.find?_cons]
 by_cases h : n = key d
 ·
  rw [if_pos h, find_no _ _ (fun a ha => by simp at ha ⊢; omega)]
  simp [h]
 rw [if_neg h, show decide (key d = n) = false by simp; omega]
 rcases Int.lt_or_gt_of_ne h with h1 | h1
 ·
  rw [find_filter _ _ l (fun a ha => by simp at ha ⊢; omega)]
  rw [find_no _ _ (fun a ha => by simp at ha ⊢; omega)]
  simp
 rw [find_no _ _ (fun a ha => by simp at ha ⊢; omega), find_filter _ _ l (fun a ha => by simp at ha ⊢; omega)]
 simp
theorem ins_len {d : α} (h : at_ key (key d) l = none) : (ins key l d).length = l.length + 1 := by
 unfold at_ at h
 rw [List.find?_eq_none] at h
 unfold ins low high
 rw [List.length_append, List.length_cons]
 induction l with
 | nil => rfl
 | cons a t ih =>
  have h1 := h a (by simp)
  have h2 := ih (fun b hb => h b (by simp [hb]))
  simp at h1
  rw [List.filter_cons, List.filter_cons]
  rcases Int.lt_or_gt_of_ne h1 with h3 | h3
  ·
   rw [if_pos (by simp; omega), if_neg (by simp; omega)]
   simp only [List.length_cons]; omega
  rw [if_neg (by simp; omega), if_pos (by simp; omega)]
  simp only [List.length_cons]; omega
end
theorem pairsOk_srt {l : List DPair} (h : pairsOk l = true) : Srt DPair.Key l ∧ ∀ p, p ∈ l → pairOk p = true := by
 have h := pairsOk_iff.1 h
 refine ⟨srt_of_adj fun i d e hd he => ?_, fun p hp => ?_⟩
 ·
  have hlt := (List.getElem?_eq_some_iff.1 hd).1
  exact (h (i + 1) hlt d hd).2 e oM (by simpa using he)
 obtain ⟨i, hi⟩ := List.mem_iff_getElem?.1 hp
 exact (h i (List.getElem?_eq_some_iff.1 hi).1 p hi).1
theorem pairsOk_of {l : List DPair} (h : Srt DPair.Key l) (h1 : ∀ p, p ∈ l → pairOk p = true) : pairsOk l = true :=
 pairsOk_iff.2 fun i _ d hd => ⟨h1 d (List.mem_of_getElem? hd), fun e hp he => srt_adj h hd he oM⟩
theorem pairOk_key {p : DPair} (h : pairOk p = true) : 0 ≤ p.Key ∧ p.Key ≤ 9 ∧ 0 ≤ p.Value ∧ p.Value ≤ 999 := by
 unfold pairOk at h
 rw [Bool.and_eq_true] at h
 have := inb_true.1 h.1; have := inb_true.1 h.2
 omega
theorem jobsOk_srt {l : List DJob} (h : jobsOk l = true) : l.length ≤ 8 ∧ Srt DJob.Id l ∧ (∀ p, p ∈ l → jobOk p = true) ∧ l.Pairwise (fun a b => 0 < b.Fired → a.Fired ≠ b.Fired) := by
 obtain ⟨h0, h⟩ := jobsOk_iff.1 h
 refine ⟨h0, srt_of_adj fun i d e hd he => ?_, fun p hp => ?_, ?_⟩
 ·
  have hlt := (List.getElem?_eq_some_iff.1 hd).1
  exact (h (i + 1) hlt d hd).2.1 e oM (by simpa using he)
 ·
  obtain ⟨i, hi⟩ := List.mem_iff_getElem?.1 hp
  exact (h i (List.getElem?_eq_some_iff.1 hi).1 p hi).1
 rw [List.pairwise_iff_getElem]
 intro i j hi hj hij hf
 exact (h j hj _ (List.getElem?_eq_getElem hj)).2.2 hf i _ hij (List.getElem?_eq_getElem hi)
theorem jobsOk_of {l : List DJob} (h0 : l.length ≤ 8) (h : Srt DJob.Id l) (h1 : ∀ p, p ∈ l → jobOk p = true) (h2 : l.Pairwise (fun a b => 0 < b.Fired → a.Fired ≠ b.Fired)) : jobsOk l = true := by
 refine jobsOk_iff.2 ⟨h0, fun i _ d hd => ⟨h1 d (List.mem_of_getElem? hd), fun e hp he => srt_adj h hd he oM, fun hf k e hk he => ?_⟩⟩
 rw [List.pairwise_iff_getElem] at h2
 obtain ⟨g1, rfl⟩ := List.getElem?_eq_some_iff.1 hd
 obtain ⟨g2, rfl⟩ := List.getElem?_eq_some_iff.1 he
 exact h2 k i g2 g1 hk hf
theorem jobOk_key {j : DJob} (h : jobOk j = true) : 1 ≤ j.Id ∧ j.Id ≤ 20 ∧ timeOk j.Due = true ∧ 0 ≤ j.Key ∧ j.Key ≤ 9 ∧ 0 ≤ j.Value ∧ j.Value ≤ 999 ∧ 0 ≤ j.Fired ∧ j.Fired ≤ 2000 := by
 simp only [jobOk, idOk, Bool.and_eq_true] at h
 have := inb_true.1 h.1; have := inb_true.1 h.2.2.1; have := inb_true.1 h.2.2.2.1; have := inb_true.1 h.2.2.2.2
 exact ⟨by omega, by omega, h.2.1, by omega, by omega, by omega, by omega, by omega, by omega⟩
def putL (l : List DPair) (k v : Int) : List DPair := ins DPair.Key l ⟨k, v⟩
noncomputable def putR (l : List DPair) (k v : Int) : List DPair := if pairsOk l then (if pairOk ⟨k, v⟩ then putL l k v else l) else []
noncomputable def putOk (l : List DPair) (k v : Int) : Bool := pairsOk l && pairOk ⟨k, v⟩
def cutL (l : List DPair) (k : Int) : List DPair := l.filter (fun p => decide (p.Key ≠ k))
noncomputable def cutR (l : List DPair) (k : Int) : List DPair := if pairsOk l then cutL l k else []
noncomputable def cutOk (l : List DPair) (k : Int) : Bool := pairsOk l && (at_ DPair.Key k l).isSome
theorem putL_ok {l : List DPair} {k v : Int} (h : pairsOk l = true) (h1 : pairOk ⟨k, v⟩ = true) : pairsOk (putL l k v) = true := by
 obtain ⟨g1, g2⟩ := pairsOk_srt h
 exact pairsOk_of (ins_srt g1 _) fun p hp => (ins_mem hp).elim (g2 p) (fun e => e ▸ h1)
theorem cutL_ok {l : List DPair} {k : Int} (h : pairsOk l = true) : pairsOk (cutL l k) = true := by
 obtain ⟨g1, g2⟩ := pairsOk_srt h
 exact pairsOk_of (List.Pairwise.filter _ g1) fun p hp => g2 p (List.mem_filter.1 hp).1
def addL (l : List DJob) (j : DJob) : List DJob := ins DJob.Id l j
noncomputable def addOk (l : List DJob) (j : DJob) : Bool := jobsOk l && (jobOk j && (decide (j.Fired = 0) && (!(at_ DJob.Id j.Id l).isSome && decide (l.length < 8))))
noncomputable def addR (l : List DJob) (j : DJob) : List DJob := if jobsOk l then (if addOk l j then addL l j else l) else []
theorem addL_ok {l : List DJob} {j : DJob} (h : addOk l j = true) : jobsOk (addL l j) = true := by
 simp only [addOk, Bool.and_eq_true, Bool.not_eq_true', decide_eq_true_eq] at h
 obtain ⟨h1, h2, h3, h4, h5⟩ := h
 obtain ⟨g0, g1, g2, g3⟩ := jobsOk_srt h1
 have hn : at_ DJob.Id j.Id l = none := by
  cases h6 : at_ DJob.Id j.Id l
  ·
   rfl
  rw [h6] at h4; simp at h4
 refine jobsOk_of ?_ (ins_srt g1 _) (fun p hp => (ins_mem hp).elim (g2 p) (fun e => e ▸ h2)) ?_
 ·
  unfold addL; rw [ins_len hn]; omega
 unfold addL ins
 rw [List.pairwise_append]
 refine ⟨List.Pairwise.filter _ g3, List.pairwise_cons.2 ⟨fun b hb hf => by omega, List.Pairwise.filter _ g3⟩, ?_⟩
 intro a ha b hb hf
 rcases List.mem_cons.1 hb with rfl | hb
 ·
  omega
 obtain ⟨i, hi⟩ := List.mem_iff_getElem?.1 (mem_low.1 ha).1
 obtain ⟨k, hk⟩ := List.mem_iff_getElem?.1 (mem_high.1 hb).1
 have e1 := (mem_low.1 ha).2; have e2 := (mem_high.1 hb).2
 rw [List.pairwise_iff_getElem] at g3
 have hik : i < k := by
  rcases Nat.lt_trichotomy i k with h | h | h
  ·
   exact h
  ·
   subst h; rw [hi] at hk; obtain rfl := Option.some.inj hk; omega
  have := srt_adj g1 hi hk h; omega
 obtain ⟨q1, rfl⟩ := List.getElem?_eq_some_iff.1 hi
 obtain ⟨q2, rfl⟩ := List.getElem?_eq_some_iff.1 hk
 exact g3 i k q1 q2 hik hf
def fire1 (id index : Int) (j : DJob) : DJob := if j.Id = id then ⟨j.Id, j.Due, j.Key, j.Value, index⟩ else j
def fireL (l : List DJob) (id index : Int) : List DJob := l.map (fire1 id index)
noncomputable def fireOk (l : List DJob) (id index : Int) : Bool := jobsOk l && ((match at_ DJob.Id id l with | some j => decide (j.Fired = 0) | none => false) && (inb index 1 2000 && l.all (fun j => decide (j.Fired ≠ index))))
noncomputable def fireR (l : List DJob) (id index : Int) : List DJob := if jobsOk l then (if fireOk l id index then fireL l id index else l) else []
theorem fire1_id (id index : Int) (j : DJob) : (fire1 id index j).Id = j.Id := by unfold fire1; split <;> rfl
theorem fire1_fired (id index : Int) (j : DJob) : (fire1 id index j).Fired = if j.Id = id then index else j.Fired := by unfold fire1; split <;> rfl
theorem fire1_ok {id index : Int} {j : DJob} (h : jobOk j = true) (hi : inb index 1 2000 = true) : jobOk (fire1 id index j) = true := by
 unfold fire1
 split
 ·
  simp only [jobOk, Bool.and_eq_true] at h ⊢
  have := inb_true.1 hi
  exact ⟨h.1, h.2.1, h.2.2.1, h.2.2.2.1, inb_of oM oM⟩
 exact h
theorem fireL_ok {l : List DJob} {id index : Int} (h : fireOk l id index = true) : jobsOk (fireL l id index) = true := by
 simp only [fireOk, Bool.and_eq_true] at h
 obtain ⟨h1, h2, h3, h4⟩ := h
 obtain ⟨g0, g1, g2, g3⟩ := jobsOk_srt h1
 have hall : ∀ j, j ∈ l → j.Fired ≠ index := fun j hj => by have := List.all_eq_true.1 h4 j hj; simpa using this
 refine jobsOk_of (by simpa [fireL] using g0) ?_ ?_ ?_
 ·
  unfold Srt fireL
  rw [List.pairwise_map]
  exact List.Pairwise.imp (fun {a b} hab => by rw [fire1_id, fire1_id]; exact hab) g1
 ·
  intro p hp
  obtain ⟨j, hj, rfl⟩ := List.mem_map.1 hp
  exact fire1_ok (g2 j hj) h3
 unfold fireL
 rw [List.pairwise_map]
 refine List.Pairwise.imp_of_mem (fun {a b} ha hb hab => ?_) (List.Pairwise.and g1 g3)
 obtain ⟨e1, e2⟩ := hab
 rw [fire1_fired, fire1_fired]
 split <;> split
 ·
  omega
 ·
  intro _; exact hall a ha
 ·
  intro _ h; exact hall b hb h.symm
 exact e2
def holdsAt (l : DLease) (who epoch time : Int) : Bool := leaseOk l && (decide (l.Holder ≠ 0) && (decide (l.Holder = who) && (decide (l.Epoch = epoch) && (timeOk time && decide (time < l.Until)))))
def freeL (l : DLease) (t : Int) : Bool := decide (l.Holder = 0) || decide (l.Until ≤ t)
def grantOk (l : DLease) (who time long : Int) : Bool := leaseOk l && (schedOk who && (timeOk time && (inb long 1 1000 && (decide (l.Holder = who) || (freeL l time && decide (l.Epoch < 1000))))))
def grantL (l : DLease) (who time long : Int) : DLease := if l.Holder = who then ⟨l.Holder, l.Epoch, max l.Until (time + long)⟩ else ⟨who, l.Epoch + 1, time + long⟩
def grantR (l : DLease) (who time long : Int) : DLease := if leaseOk l then (if grantOk l who time long then grantL l who time long else l) else ⟨0, 0, 0⟩
theorem leaseOk_of {l : DLease} (h : leaseOk l = true) : 0 ≤ l.Holder ∧ l.Holder ≤ 3 ∧ 0 ≤ l.Epoch ∧ l.Epoch ≤ 1000 ∧ 0 ≤ l.Until ∧ l.Until ≤ 1001000 := by
 simp only [leaseOk, leaseZ, Bool.or_eq_true, Bool.and_eq_true, decide_eq_true_eq] at h
 rcases h with ⟨h1, h2, h3⟩ | ⟨h1, h2, h3⟩
 ·
  omega
 have := inb_true.1 h2; have := inb_true.1 h3
 simp [schedOk] at h1
 omega
theorem grantL_ok {l : DLease} {who time long : Int} (h : grantOk l who time long = true) : leaseOk (grantL l who time long) = true := by
 simp only [grantOk, Bool.and_eq_true] at h
 obtain ⟨h1, h2, h3, h4, h5⟩ := h
 have b := leaseOk_of h1
 have t := inb_true.1 h3; have q := inb_true.1 h4
 unfold grantL leaseOk
 rw [Bool.or_eq_true]
 right
 split
 ·
  rename_i hw
  have h0 : l.Holder ≠ 0 := by simp [schedOk] at h2; omega
  have hp : 1 ≤ l.Epoch := by
   simp only [leaseOk, leaseZ, Bool.or_eq_true, Bool.and_eq_true, decide_eq_true_eq] at h1
   rcases h1 with h1 | h1
   ·
    omega
   exact (inb_true.1 h1.2.1).1
  simp only [Bool.and_eq_true]
  exact ⟨by rw [hw]; exact h2, inb_of hp oM, inb_of oM oM⟩
 rename_i hw
 simp only [Bool.or_eq_true, Bool.and_eq_true, decide_eq_true_eq] at h5
 rcases h5 with h5 | h5
 ·
  exact absurd h5 hw
 simp only [Bool.and_eq_true]
 exact ⟨h2, inb_of oM oM, inb_of oM oM⟩
theorem grantR_ok {l : DLease} {who time long : Int} (h : leaseOk l = true) : leaseOk (grantR l who time long) = true := by
 unfold grantR
 rw [if_pos h]
 split
 ·
  rename_i h; exact grantL_ok h
 exact h
def entryOk (e : DEntry) : Bool := inb e.Index 1 2000 && (timeOk e.Time && (inb e.Client 2 5 && (inb e.Seq 1 2000 && opOk e.Op)))
def nextIn (s : DState) (e : DEntry) : Bool := entryOk e && (decide (e.Index = s.Index + 1) && decide (s.Time ≤ e.Time))
def fires (s : DState) (e : DEntry) : Bool := decide (e.Op.Kind = 4) && (match at_ DJob.Id e.Op.A s.Jobs with | some j => decide (j.Fired = 0) && (decide (j.Due ≤ e.Time) && holdsAt s.Lease e.Client e.Op.B e.Time) | none => false)
def jobOf (s : DState) (e : DEntry) : DJob := (at_ DJob.Id e.Op.A s.Jobs).getD ⟨0, 0, 0, 0, 0⟩
noncomputable def stepS (s : DState) (e : DEntry) : DState :=
 if e.Op.Kind = 1 then ⟨e.Index, e.Time, putL s.Pairs e.Op.A e.Op.B, s.Jobs, s.Lease⟩
 else if e.Op.Kind = 2 then ⟨e.Index, e.Time, cutL s.Pairs e.Op.A, s.Jobs, s.Lease⟩
 else if e.Op.Kind = 3 then ⟨e.Index, e.Time, s.Pairs, addR s.Jobs ⟨e.Op.A, e.Op.B, e.Op.C, e.Op.D, 0⟩, s.Lease⟩
 else if e.Op.Kind = 4 then (if fires s e then ⟨e.Index, e.Time, putL s.Pairs (jobOf s e).Key (jobOf s e).Value, fireL s.Jobs e.Op.A e.Index, s.Lease⟩ else ⟨e.Index, e.Time, s.Pairs, s.Jobs, s.Lease⟩)
 else ⟨e.Index, e.Time, s.Pairs, s.Jobs, grantR s.Lease e.Client e.Time e.Op.A⟩
noncomputable def doesS (s : DState) (e : DEntry) : Bool :=
 if e.Op.Kind = 1 then true
 else if e.Op.Kind = 2 then (at_ DPair.Key e.Op.A s.Pairs).isSome
 else if e.Op.Kind = 3 then addOk s.Jobs ⟨e.Op.A, e.Op.B, e.Op.C, e.Op.D, 0⟩
 else if e.Op.Kind = 4 then fires s e
 else grantOk s.Lease e.Client e.Time e.Op.A
noncomputable def effS (s : DState) (e : DEntry) : Int := if doesS s e then e.Op.Kind else 0
theorem stateOk_parts {s : DState} (h : stateOk s = true) : 0 ≤ s.Index ∧ s.Index ≤ 2000 ∧ timeOk s.Time = true ∧ pairsOk s.Pairs = true ∧ jobsOk s.Jobs = true ∧ leaseOk s.Lease = true ∧ ∀ j, j ∈ s.Jobs → j.Fired ≤ s.Index := by
 simp only [stateOk, Bool.and_eq_true] at h
 obtain ⟨h1, h2, h3, h4, h5, h6⟩ := h
 have := inb_true.1 h1
 exact ⟨this.1, this.2, h2, h3, h4, h5, fun j hj => by have := List.all_eq_true.1 h6 j hj; simpa using this⟩
theorem stateOk_of {s : DState} (h1 : 0 ≤ s.Index ∧ s.Index ≤ 2000) (h2 : timeOk s.Time = true) (h3 : pairsOk s.Pairs = true) (h4 : jobsOk s.Jobs = true) (h5 : leaseOk s.Lease = true) (h6 : ∀ j, j ∈ s.Jobs → j.Fired ≤ s.Index) : stateOk s = true := by
 simp only [stateOk, Bool.and_eq_true]
 exact ⟨inb_of h1.1 h1.2, h2, h3, h4, h5, List.all_eq_true.2 fun j hj => by simpa using h6 j hj⟩
theorem entryOk_parts {e : DEntry} (h : entryOk e = true) : 1 ≤ e.Index ∧ e.Index ≤ 2000 ∧ timeOk e.Time = true ∧ opOk e.Op = true := by
 simp only [entryOk, Bool.and_eq_true] at h
 have := inb_true.1 h.1
 exact ⟨this.1, this.2, h.2.1, h.2.2.2.2⟩
theorem nextIn_parts {s : DState} {e : DEntry} (h : nextIn s e = true) : entryOk e = true ∧ e.Index = s.Index + 1 ∧ s.Time ≤ e.Time := by
 simp only [nextIn, Bool.and_eq_true, decide_eq_true_eq] at h
 exact ⟨h.1, h.2.1, h.2.2⟩
theorem opOk_kind {o : DOp} (h : opOk o = true) : o.Kind = 1 ∨ o.Kind = 2 ∨ o.Kind = 3 ∨ o.Kind = 4 ∨ o.Kind = 5 := by
 unfold opOk at h
 repeat' split at h
 all_goals first | omega | cases h
theorem opOk_put {o : DOp} (h : opOk o = true) (hk : o.Kind = 1) : pairOk ⟨o.A, o.B⟩ = true := by
 simp only [opOk, hk, if_true, Bool.and_eq_true] at h
 simp only [pairOk, Bool.and_eq_true]
 exact ⟨h.1, h.2.1⟩
theorem at_some {α : Type} {key : α → Int} {x : Int} {l : List α} {a : α} (h : at_ key x l = some a) : a ∈ l ∧ key a = x := by
 unfold at_ at h
 exact ⟨List.mem_of_find?_eq_some h, by simpa using List.find?_some h⟩
theorem fires_job {s : DState} {e : DEntry} (h : fires s e = true) : ∃ j, at_ DJob.Id e.Op.A s.Jobs = some j ∧ j.Fired = 0 ∧ jobOf s e = j := by
 simp only [fires, Bool.and_eq_true] at h
 cases hj : at_ DJob.Id e.Op.A s.Jobs with
 | none => rw [hj] at h; simp at h
 | some j =>
  rw [hj] at h
  simp only [Bool.and_eq_true, decide_eq_true_eq] at h
  exact ⟨j, rfl, h.2.1, by simp [jobOf, hj]⟩
theorem fires_fireOk {s : DState} {e : DEntry} (hs : stateOk s = true) (hn : nextIn s e = true) (h : fires s e = true) : fireOk s.Jobs e.Op.A e.Index = true := by
 obtain ⟨j, hj, hf, _⟩ := fires_job h
 obtain ⟨g1, g2, g3, g4, g5, g6, g7⟩ := stateOk_parts hs
 obtain ⟨n1, n2, n3⟩ := nextIn_parts hn
 obtain ⟨m1, m2, m3, m4⟩ := entryOk_parts n1
 simp only [fireOk, Bool.and_eq_true, hj]
 exact ⟨g5, by simpa using hf, inb_of m1 m2, List.all_eq_true.2 fun a ha => by have := g7 a ha; simp; omega⟩
theorem fires_pairOk {s : DState} {e : DEntry} (hs : stateOk s = true) (h : fires s e = true) : pairOk ⟨(jobOf s e).Key, (jobOf s e).Value⟩ = true := by
 obtain ⟨j, hj, hf, he⟩ := fires_job h
 obtain ⟨g1, g2, g3, g4, g5, g6, g7⟩ := stateOk_parts hs
 have := jobOk_key ((jobsOk_srt g5).2.2.1 j (at_some hj).1)
 rw [he]
 simp only [pairOk, Bool.and_eq_true]
 exact ⟨inb_of oM oM, inb_of oM oM⟩
theorem stepS_ok {s : DState} {e : DEntry} (hs : stateOk s = true) (hn : nextIn s e = true) : stateOk (stepS s e) = true := by
 obtain ⟨g1, g2, g3, g4, g5, g6, g7⟩ := stateOk_parts hs
 obtain ⟨n1, n2, n3⟩ := nextIn_parts hn
 obtain ⟨m1, m2, m3, m4⟩ := entryOk_parts n1
 have g8 : ∀ j, j ∈ s.Jobs → j.Fired ≤ e.Index := fun j hj => by have := g7 j hj; omega
 have hi : 0 ≤ e.Index ∧ e.Index ≤ 2000 := by omega
 unfold stepS
 split
 ·
  rename_i hk
  exact stateOk_of hi m3 (putL_ok g4 (opOk_put m4 hk)) g5 g6 g8
 split
 ·
  exact stateOk_of hi m3 (cutL_ok g4) g5 g6 g8
 split
 ·
  refine stateOk_of hi m3 g4 ?_ g6 ?_
  ·
   simp only []
   unfold addR
   rw [if_pos g5]
   split
   ·
    rename_i h; exact addL_ok h
   exact g5
  intro j hj
  simp only [] at hj ⊢
  unfold addR at hj
  rw [if_pos g5] at hj
  split at hj
  ·
   rcases ins_mem hj with h | rfl
   ·
    exact g8 j h
   simp only []; omega
  exact g8 j hj
 split
 ·
  split
  ·
   rename_i hf
   refine stateOk_of hi m3 (putL_ok g4 (fires_pairOk hs hf)) (fireL_ok (fires_fireOk hs hn hf)) g6 ?_
   intro j hj
   obtain ⟨i, hi', rfl⟩ := List.mem_map.1 hj
   rw [fire1_fired]
   split
   ·
    exact Int.le_refl _
   exact g8 i hi'
  exact stateOk_of hi m3 g4 g5 g6 g8
 exact stateOk_of hi m3 g4 g5 (grantR_ok g6) g8
open Go.RowKit
def vfind (l : List DPair) (key : Int) : Option DPair := l.find? (fun p => decide (p.Key = key))
def vnum (l : List DPair) (key : Int) : Int := match vfind l key with | some p => p.Value | none => 0
def vhas (l : List DPair) (key : Int) : Bool := (vfind l key).isSome
theorem find_at {α : Type} {p : α → Bool} {l : List α} {k : Nat} {x : α} (hx : l[k]? = some x) (h : (l.take k).all (fun y => !p y) = true) (hp : p x = true) : l.find? p = some x := by
 have hk : k < l.length := (List.getElem?_eq_some_iff.1 hx).1
 have h1 : l = l.take k ++ (x :: l.drop (k + 1)) := by
  have h2 : l.drop k = l[k] :: l.drop (k + 1) := List.drop_eq_getElem_cons hk
  have h3 : l[k] = x := (List.getElem?_eq_some_iff.1 hx).2
  rw [h3] at h2
  rw [← h2, List.take_append_drop]
 have h4 : (l.take k).find? p = none := by
  rw [List.find?_eq_none]
  intro y hy
  have := (List.all_eq_true.1 h) y hy
  simpa using this
 rw [h1, List.find?_append, h4]
 simp [hp]
theorem find_none {α : Type} {p : α → Bool} {l : List α} (h : l.all (fun y => !p y) = true) : l.find? p = none := by
 rw [List.find?_eq_none]
 intro y hy
 have := (List.all_eq_true.1 h) y hy
 simpa using this
end Go.G8
namespace Go.Proofs.YtfhaooaajpopmaaGreat
open Go.RowKit Go.G8
theorem sValueAt_c (w : World) (s0_0 : Value) (l0_0 : List DPair) (key : Int) (h0_0 : Ints 2 w s0_0 (flPair l0_0)) (hp : pairsOk l0_0 = true) :
  Calls Tryz.prog 97 #[s0_0, .int .i64 key] w (RetV w (.tuple #[.int .i64 (vnum l0_0 key), .bool (vhas l0_0 key)])) := by
 obtain ⟨a, cap, rfl, hcap, hm, ha⟩ := h0_0.recs (f := DPair.ints) (fun _ => rfl) dC
 have HA := Lib.hid ha
 have HV := Lib.hid hp
 clear ha hp
 unfold maxLen at hm
 go_enter Tryz.func97, Tryz.ntmps97
 go_wp2_with fail
 refine (sPairsOk_c _ _ _ h0_0).mono ?_
 rintro e w1 ⟨rfl, hx1⟩
 rw [HV.out]
 go_wp2_with fail
 go_loopw [6] (fun i wr => ∃ k : Nat, k ≤ l0_0.length ∧ i = .int .i64 k ∧ Ext w wr ∧ Hid ((l0_0.take k).all (fun p => !decide (p.Key = key)) = true)) (fun i _ => l0_0.length - (intOf i).toNat)
 case atStart => exact ⟨0, Nat.zero_le _, rfl, hx1, Lib.hid (by simp)⟩
 case round =>
  obtain ⟨k, hk, rfl, he, hn⟩ := hrel
  by_cases hlt : k < l0_0.length
  ·
   obtain ⟨d, b1, o1, hd, rfl, hb1, c⟩ := HA.out k hlt
   have d0 := he.cell (c 0 _ dC rfl)
   have d1 := he.cell (c 1 _ dC rfl)
   simp only [Nat.add_zero] at d0
   have HD := Lib.hid hd
   clear c hd
   by_cases hq : d.Key = key
   ·
    subst hq
    go_wp2
    go_ret2
    have hf : vfind l0_0 d.Key = some d := find_at HD.out hn.out (by simp)
    exact ⟨by simp [vnum, vhas, hf], he⟩
   go_wp2
   go_roundw
   case rel => exact ⟨k + 1, by omega, by go_num, he, Lib.hid (all_step HD.out hn.out (by simp [hq]))⟩
   case measure => simp [intOf]; omega
  obtain rfl : k = l0_0.length := by omega
  go_wp2
  go_ret2
  have hn' := hn.out
  rw [List.take_length] at hn'
  have hf : vfind l0_0 key = none := find_none hn'
  exact ⟨by simp [vnum, vhas, hf], he⟩
end Go.Proofs.YtfhaooaajpopmaaGreat
namespace Go.G8
open Go.RowKit
theorem OwnI.lit0 (w : World) (e : TypeId) (n : Nat) : OwnI w.heap.size e n (w.alloc (.cells #[] e)) (.slice (some ⟨w.heap.size, 0, none⟩) 0 0) [] :=
 Own.of_blk (cap := 0) (Blk.new w e #[]) (Nat.le_refl _) (by simp) (by simp) (Nat.le_refl _) dC (fun j hj => by rw [Nat.zero_mul] at hj; omega)
theorem Sl.oneAt (w : World) (cur : Array Value) (t : TypeId) (n b : Nat) (hb : b = w.heap.size) (hn : cur.size = n) : Sl n (w.alloc (.cells cur t)) (.slice (some ⟨b, 0, none⟩) 1 1) cur.toList := by
 subst hb; exact Sl.one w cur t n hn
theorem low_len {α : Type} (key : α → Int) (x : Int) (l : List α) : (low key x l).length ≤ l.length := List.length_filter_le _ _
theorem pairsOk_len {l : List DPair} (h : pairsOk l = true) : l.length ≤ 10 := PairsOk.len (pairsOk_iff.1 h)
theorem pairs_low0 {l : List DPair} (h : pairsOk l = true) : low DPair.Key 0 l = [] := low_none fun a ha => (pairOk_key ((pairsOk_srt h).2 a ha)).1
theorem pairs_low10 {l : List DPair} (h : pairsOk l = true) : low DPair.Key 10 l = l := low_all fun a ha => by have := (pairOk_key ((pairsOk_srt h).2 a ha)).2.1; omega
theorem put_next {l : List DPair} {key val k : Int} (h : pairsOk l = true) (h1 : pairOk ⟨key, val⟩ = true) :
  low DPair.Key (k + 1) (putL l key val) = low DPair.Key k (putL l key val) ++ (if k = key then [⟨key, val⟩] else (vfind l k).toList) := by
 unfold putL
 rw [low_next (ins_srt (pairsOk_srt h).1 _)]
 rw [ins_at_key]
 simp only []
 split <;> rfl
theorem vhas_some {l : List DPair} {k : Int} (h : vhas l k = true) : (vfind l k).toList = [⟨k, vnum l k⟩] := by
 unfold vhas at h; unfold vnum
 cases hv : vfind l k with
 | none => rw [hv] at h; cases h
 | some p =>
  have := (at_some (key := DPair.Key) (x := k) (l := l) hv).2
  subst this
  rfl
theorem vhas_none {l : List DPair} {k : Int} (h : vhas l k = false) : (vfind l k).toList = [] := by
 unfold vhas at h
 cases hv : vfind l k with
 | none => rfl
 | some p => rw [hv] at h; cases h
theorem flPair_one (l : List DPair) (p : DPair) : flPair (l ++ [p]) = flPair l ++ [p.Key, p.Value] := by simp [flPair, DPair.ints]
theorem flJob_one (l : List DJob) (d : DJob) : flJob (l ++ [d]) = flJob l ++ [d.Id, d.Due, d.Key, d.Value, d.Fired] := by simp [flJob, DJob.ints]
theorem cut_next {l : List DPair} {k : Nat} {d : DPair} {key : Int} (h : l[k]? = some d) : cutL (l.take (k + 1)) key = cutL (l.take k) key ++ (if d.Key = key then [] else [d]) := by
 rw [List.take_add_one, h]
 unfold cutL
 rw [List.filter_append]
 simp only [Option.toList_some, List.filter_cons, List.filter_nil]
 by_cases hq : d.Key = key <;> simp [hq]
theorem cut_shorter {l : List DPair} {key : Int} (hp : pairsOk l = true) : cutOk l key = decide ((cutL l key).length < l.length) := by
 unfold cutOk
 rw [hp, Bool.true_and]
 cases ha : at_ DPair.Key key l with
 | none =>
  have : cutL l key = l := filter_all fun a hm => by
   unfold at_ at ha
   rw [List.find?_eq_none] at ha
   have := ha a hm
   simpa using this
  rw [this]; simp
 | some d =>
  obtain ⟨hm, hk⟩ := at_some ha
  obtain ⟨i, hi⟩ := List.mem_iff_getElem?.1 hm
  have h4 := (set_at (pairsOk_srt hp).1 hi hk).2.2.2
  have hlt := (List.getElem?_eq_some_iff.1 hi).1
  have : (cutL l key).length = (l.take i ++ l.drop (i + 1)).length := by unfold cutL; rw [h4]
  rw [List.length_append, List.length_take, List.length_drop] at this
  simp; omega
end Go.G8
namespace Go.Proofs.YtfhaooaajpopmaaGreat
open Go.RowKit Go.G8
theorem sPut_c (w : World) (s : Value) (l : List DPair) (key val : Int) (h : Ints 2 w s (flPair l)) :
  Calls Tryz.prog 85 #[s, .int .i64 key, .int .i64 val] w (Ret w fun r w' => ∃ u, r = .tuple #[u, .bool (putOk l key val)] ∧ OwnI w.heap.size 122 2 w' u (flPair (putR l key val))) := by
 obtain ⟨a0, n0, k0, rfl⟩ := h.shape
 have HS := Lib.hid h
 clear h
 obtain ⟨i0, hi, hz0, hz1, hz2⟩ := info_parts info_Pair
 go_enter Tryz.func85, Tryz.ntmps85
 go_wp2_with fail
 refine (sPairsOk_c _ _ l HS.out).mono ?_
 rintro e w1 ⟨rfl, hx1⟩
 have hs1 := hx1.size
 cases hp : pairsOk l
 ·
  have e1 : putOk l key val = false := by simp [putOk, hp]
  have e2 : putR l key val = [] := by simp [putR, hp]
  have HE1 := Lib.hid e1; have HE2 := Lib.hid e2
  clear e1 e2
  go_wp2_with fail
  go_ret2
  refine ⟨_, rfl, ?_, _, by (rw [HE1.out]; try rfl), ?_⟩
  ·
   exact xT
  rw [HE2.out]
  exact OwnI.mono (OwnI.lit0 w1 _ _) hs1
 go_wp2_with fail
 refine (l14Right_c _ key val).mono ?_
 rintro e w2 ⟨rfl, hx2⟩
 have hs2 := hx2.size
 have E2 : Ext w w2 := hx1.trans hx2
 cases hv : pairOk ⟨key, val⟩
 ·
  have e1 : putOk l key val = false := by simp [putOk, hv]
  have e2 : putR l key val = l := by simp [putR, hp, hv]
  have HE1 := Lib.hid e1; have HE2 := Lib.hid e2
  clear e1 e2
  have hl := pairsOk_len hp
  go_wp2_with fail
  refine (l14Copy_c _ _ l (HS.out.ext E2) oM).mono ?_
  rintro e w3 ⟨_, rfl, hx3, g⟩
  obtain ⟨ta, tn, tc, rfl⟩ := g.shape
  go_wp2_with fail
  go_ret2
  refine ⟨_, rfl, ?_, _, by (rw [HE1.out]; try rfl), ?_⟩
  ·
   exact xT
  rw [HE2.out]
  exact g.mono oM
 have e1 : putOk l key val = true := by simp [putOk, hp, hv]
 have e2 : putR l key val = putL l key val := by simp [putR, hp, hv]
 have HE1 := Lib.hid e1; have HE2 := Lib.hid e2
 have hL := putL_ok hp hv
 have hL0 := pairs_low0 hL
 have hL1 := pairs_low10 hL
 have hLn := pairsOk_len hL
 have HN := fun k => Lib.hid (put_next (k := k) hp hv)
 clear e1 e2 hL hv
 obtain ⟨L, hLL⟩ : ∃ L, L = putL l key val := ⟨_, rfl⟩
 rw [← hLL] at hL0 hL1 hLn
 have HLL := Lib.hid hLL
 simp only [← hLL] at HN
 clear hLL
 go_wp2_with fail
 have X0 : Ext w2 (w2.alloc (.cells #[] 122)) := (Ext.refl _).alloc _
 go_loopw [8, 9] (fun out kk wr => ∃ k : Nat, k ≤ 10 ∧ kk = .int .i64 k ∧ Ext w2 wr ∧ OwnI w2.heap.size 122 2 wr out (flPair (low DPair.Key k L))) (fun _ kk _ => 10 - (intOf kk).toNat)
 case atStart => exact ⟨0, Nat.zero_le _, rfl, X0, by rw [show ((0 : Nat) : Int) = 0 from rfl, hL0]; exact OwnI.lit0 w2 _ _⟩
 case round =>
  obtain ⟨k, hk, rfl, he, hown⟩ := hrel
  obtain ⟨a1, n1, c1, rfl⟩ := hown.shape
  have hzr := he.size
  have hlo := low_len DPair.Key (k : Int) L
  by_cases hlt : (k : Int) ≤ 9
  ·
   go_wp2_with fail
   refine (sValueAt_c _ _ l (k : Int) (HS.out.ext (E2.trans he)) hp).mono ?_
   rintro e w4 ⟨rfl, hx4⟩
   have hz4 := hx4.size
   have hown4 := Own.ext hown hx4
   have he4 : Ext w2 w4 := he.trans hx4
   have HNk := HN (k : Int)
   by_cases hkk : (k : Int) = key
   ·
    subst hkk
    have HNk2 := Lib.hid (show low DPair.Key ((k : Int) + 1) L = low DPair.Key (k : Int) L ++ [⟨(k : Int), val⟩] by rw [HNk.out]; simp)
    clear HNk
    go_wp2_with (first | (at_builtin; refine wp_append rfl _ _ 57 rfl 122 i0 _ 2 16 Tryz.underlying57 hi hz0 hz1 hz2 rfl dC (w2.heap.size) _ _ rfl (Own.ext hown4 ((Ext.refl _).alloc _)) _ (([(k : Int), val] : List Int).map (.int .i64)) rfl (Sl.one w4 #[.int .i64 (k : Int), .int .i64 val] _ 2 rfl) (ints_oneCell _ _) 1000 (by simp only [List.length_map, List.length_cons, List.length_nil, length_flPair]; omega) (by unfold maxLen; omega) oM (by simp; omega) w2 (he4.alloc _) oM ?_; rotate_right; intro v1 wa hown1 hea _))
    go_roundw
    case rel =>
     refine ⟨k + 1, by omega, by go_num, hea, ?_⟩
     rw [show ((k + 1 : Nat) : Int) = (k : Int) + 1 by omega, HNk2.out, flPair_one]
     simpa [OwnI] using hown1
    case measure => simp [intOf]; omega
   cases hvh : vhas l (k : Int)
   ·
    go_wp2_with fail
    go_roundw
    case rel =>
     refine ⟨k + 1, by omega, by go_num, he4, ?_⟩
     rw [show ((k + 1 : Nat) : Int) = (k : Int) + 1 by omega, HNk.out, if_neg hkk, vhas_none hvh, List.append_nil]
     exact hown4
    case measure => simp [intOf]; omega
   go_wp2_with (first | (at_builtin; refine wp_append rfl _ _ 57 rfl 122 i0 _ 2 16 Tryz.underlying57 hi hz0 hz1 hz2 rfl dC (w2.heap.size) _ _ rfl (Own.ext hown4 ((Ext.refl _).alloc _)) _ (([(k : Int), (vnum l (k : Int))] : List Int).map (.int .i64)) rfl (Sl.one w4 #[.int .i64 (k : Int), .int .i64 (vnum l (k : Int))] _ 2 rfl) (ints_oneCell _ _) 1000 (by simp only [List.length_map, List.length_cons, List.length_nil, length_flPair]; omega) (by unfold maxLen; omega) oM (by simp; omega) w2 (he4.alloc _) oM ?_; rotate_right; intro v1 wa hown1 hea _))
   go_roundw
   case rel =>
    refine ⟨k + 1, by omega, by go_num, hea, ?_⟩
    rw [show ((k + 1 : Nat) : Int) = (k : Int) + 1 by omega, HNk.out, if_neg hkk, vhas_some hvh, flPair_one]
    simpa [OwnI] using hown1
   case measure => simp [intOf]; omega
  obtain rfl : k = 10 := by omega
  rw [show ((10 : Nat) : Int) = 10 from rfl, hL1] at hown
  go_wp2_with fail
  go_ret2
  exact ⟨_, rfl, E2.trans he, _, by (rw [HE1.out]; try rfl), by rw [HE2.out, ← HLL.out]; exact hown.mono oM⟩
theorem sCutOut_c (w : World) (s : Value) (l : List DPair) (key : Int) (h : Ints 2 w s (flPair l)) :
  Calls Tryz.prog 86 #[s, .int .i64 key] w (Ret w fun r w' => ∃ u, r = .tuple #[u, .bool (cutOk l key)] ∧ OwnI w.heap.size 122 2 w' u (flPair (cutR l key))) := by
 obtain ⟨a, cap, rfl, hcap, hm, ha⟩ := h.recs (f := DPair.ints) (fun _ => rfl) dC
 have HA := Lib.hid ha
 have HS := Lib.hid h
 clear ha h
 unfold maxLen at hm
 obtain ⟨i0, hi, hz0, hz1, hz2⟩ := info_parts info_Pair
 go_enter Tryz.func86, Tryz.ntmps86
 go_wp2_with fail
 refine (sPairsOk_c _ _ l HS.out).mono ?_
 rintro e w1 ⟨rfl, hx1⟩
 have hs1 := hx1.size
 cases hp : pairsOk l
 ·
  have e1 : cutOk l key = false := by simp [cutOk, hp]
  have e2 : cutR l key = [] := by simp [cutR, hp]
  have HE1 := Lib.hid e1; have HE2 := Lib.hid e2
  clear e1 e2
  go_wp2_with fail
  go_ret2
  refine ⟨_, rfl, ?_, _, by (rw [HE1.out]; try rfl), ?_⟩
  ·
   exact xT
  rw [HE2.out]
  exact OwnI.mono (OwnI.lit0 w1 _ _) hs1
 have e2 : cutR l key = cutL l key := by simp [cutR, hp]
 have e1 : cutOk l key = decide ((cutL l key).length < l.length) := cut_shorter hp
 have HE2 := Lib.hid e2
 have HE := Lib.hid e1
 have hln := pairsOk_len hp
 clear e1 e2
 go_wp2_with fail
 go_loopw [6, 7] (fun out ii wr => ∃ k : Nat, k ≤ l.length ∧ ii = .int .i64 k ∧ Ext w1 wr ∧ OwnI w1.heap.size 122 2 wr out (flPair (cutL (l.take k) key))) (fun _ ii _ => l.length - (intOf ii).toNat)
 case atStart => exact ⟨0, Nat.zero_le _, rfl, (Ext.refl _).alloc _, OwnI.lit0 w1 _ _⟩
 case round =>
  obtain ⟨k, hk, rfl, he, hown⟩ := hrel
  obtain ⟨a1, n1, c1, rfl, hcl, hcc, _⟩ := hown.open_
  have hn1 : n1 = (cutL (l.take k) key).length := by simp only [List.length_map, length_flPair] at hcl; omega
  have hzr := he.size
  have hlo : (cutL (l.take k) key).length ≤ k := by
   have := List.length_filter_le (fun p : DPair => decide (p.Key ≠ key)) (l.take k)
   simp only [List.length_take] at this
   unfold cutL; omega
  by_cases hlt : k < l.length
  ·
   obtain ⟨d, b1, o1, hd, rfl, hb1, c⟩ := HA.out k hlt
   have d0 := (hx1.trans he).cell (c 0 _ dC rfl)
   have d1 := (hx1.trans he).cell (c 1 _ dC rfl)
   simp only [Nat.add_zero] at d0
   have HD := Lib.hid hd
   have HN := Lib.hid (cut_next (key := key) hd)
   clear c hd hcl hn1
   by_cases hq : d.Key = key
   ·
    go_wp2_with fail
    go_roundw
    case rel => exact ⟨k + 1, by omega, by go_num, he, by rw [HN.out, if_pos hq, List.append_nil]; exact hown⟩
    case measure => simp [intOf]; omega
   go_wp2_with (first | (at_builtin; refine wp_append rfl _ _ 57 rfl 122 i0 _ 2 16 Tryz.underlying57 hi hz0 hz1 hz2 rfl dC (w1.heap.size) _ _ rfl (Own.ext hown ((Ext.refl _).alloc _)) _ (([d.Key, d.Value] : List Int).map (.int .i64)) rfl (Sl.one wr #[.int .i64 d.Key, .int .i64 d.Value] _ 2 rfl) (ints_oneCell _ _) 1000 (by simp only [List.length_map, List.length_cons, List.length_nil, length_flPair]; omega) (by unfold maxLen; omega) oM (by simp; omega) w1 (he.alloc _) oM ?_; rotate_right; intro v1 wa hown1 hea _))
   go_roundw
   case rel => exact ⟨k + 1, by omega, by go_num, hea, by rw [HN.out, if_neg hq, flPair_one]; simpa [OwnI] using hown1⟩
   case measure => simp [intOf]; omega
  obtain rfl : k = l.length := by omega
  rw [List.take_length] at hown hn1 hlo
  have HN1 := Lib.hid hn1
  clear hcl hn1
  by_cases hsh : n1 < l.length
  ·
   have HE1 : Hid (cutOk l key = true) := Lib.hid (by rw [HE.out, ← HN1.out]; simp; omega)
   go_wp2_with fail
   go_ret2
   exact ⟨_, rfl, hx1.trans he, _, by (rw [HE1.out]; try rfl), by rw [HE2.out]; exact hown.mono oM⟩
  have HE1 : Hid (cutOk l key = false) := Lib.hid (by rw [HE.out, ← HN1.out]; simp; omega)
  go_wp2_with fail
  go_ret2
  exact ⟨_, rfl, hx1.trans he, _, by (rw [HE1.out]; try rfl), by rw [HE2.out]; exact hown.mono oM⟩
end Go.Proofs.YtfhaooaajpopmaaGreat
namespace Go.G8
open Go.RowKit
def jget (l : List DJob) (id : Int) : DJob := (at_ DJob.Id id l).getD ⟨0, 0, 0, 0, 0⟩
def jhas (l : List DJob) (id : Int) : Bool := (at_ DJob.Id id l).isSome
theorem jobsOk_len {l : List DJob} (h : jobsOk l = true) : l.length ≤ 8 := (jobsOk_srt h).1
theorem jobs_low1 {l : List DJob} (h : jobsOk l = true) : low DJob.Id 1 l = [] := low_none fun a ha => (jobOk_key ((jobsOk_srt h).2.2.1 a ha)).1
theorem jobs_low21 {l : List DJob} (h : jobsOk l = true) : low DJob.Id 21 l = l := low_all fun a ha => by have := (jobOk_key ((jobsOk_srt h).2.2.1 a ha)).2.1; omega
theorem jhas_some {l : List DJob} {k : Int} (h : jhas l k = true) : (at_ DJob.Id k l).toList = [jget l k] := by
 unfold jhas at h; unfold jget
 cases hv : at_ DJob.Id k l with
 | none => rw [hv] at h; cases h
 | some p => rfl
theorem jhas_none {l : List DJob} {k : Int} (h : jhas l k = false) : (at_ DJob.Id k l).toList = [] := by
 unfold jhas at h
 cases hv : at_ DJob.Id k l with
 | none => rfl
 | some p => rw [hv] at h; cases h
theorem add_next {l : List DJob} {j : DJob} {k : Int} (h : jobsOk l = true) :
  low DJob.Id (k + 1) (addL l j) = low DJob.Id k (addL l j) ++ (if k = j.Id then [j] else (at_ DJob.Id k l).toList) := by
 unfold addL
 rw [low_next (ins_srt (jobsOk_srt h).2.1 _)]
 rw [ins_at_key]
 split <;> rfl
theorem OwnI.set {B : Nat} {e : TypeId} {n : Nat} {w : World} {g len cap : Nat} {xs : List Int} (h : OwnI B e n w (.slice (some ⟨g, 0, none⟩) len cap) xs) {i : Nat} (hi : i < xs.length) (x : Int) :
  OwnI B e n (w.setCell ⟨g, i, none⟩ (.int .i64 x)) (.slice (some ⟨g, 0, none⟩) len cap) (xs.set i x) := by
 obtain ⟨a, len', cap', e1, h0, h1, h2, h3⟩ := Own.open_ h
 injection e1 with e1 e2 e3
 subst e2; subst e3
 rcases h3 with h3 | ⟨g', cur, e4, hB, hG, hs, hp⟩
 ·
  subst h3
  simp at h0
  rw [h0] at hi; simp at hi
 rw [e4] at e1
 injection e1 with e1; injection e1 with e1
 subst e1
 refine Own.of_blk (hG.set_ i _) hB (by simpa using hs) (by simpa using h0) h1 h2 (fun j hj => ?_)
 rw [Array.getElem?_setIfInBounds, List.map_set, List.getElem?_set]
 have hl : len * n = xs.length := by simpa using h0.symm
 have hc : len * n ≤ cap * n := Nat.mul_le_mul_right _ h1
 by_cases hij : i = j
 ·
  subst hij
  rw [if_pos rfl, if_pos rfl, if_pos oM, if_pos (by simpa using hi)]
 rw [if_neg hij, if_neg hij]
 exact hp j hj
theorem flJob_set {l : List DJob} {i : Nat} {d : DJob} (h : l[i]? = some d) (x : Int) : (flJob l).set (i * 5 + 4) x = flJob (l.set i ⟨d.Id, d.Due, d.Key, d.Value, x⟩) := by
 induction l generalizing i with
 | nil => simp at h
 | cons a t ih =>
  cases i with
  | zero =>
   simp at h; subst h
   simp [flJob, DJob.ints]
  | succ i =>
   have h' : t[i]? = some d := by simpa using h
   have := ih h'
   simp only [flJob, List.flatMap_cons, DJob.ints, List.set_cons_succ] at this ⊢
   rw [show (i + 1) * 5 + 4 = (i * 5 + 4) + 1 + 1 + 1 + 1 + 1 by omega]
   simp only [List.cons_append, List.nil_append, List.set_cons_succ, this]
theorem fire_set {l : List DJob} (h : jobsOk l = true) {i : Nat} {d : DJob} (hd : l[i]? = some d) (index : Int) : fireL l d.Id index = l.set i ⟨d.Id, d.Due, d.Key, d.Value, index⟩ := by
 have hs := (jobsOk_srt h).2.1
 apply List.ext_getElem?
 intro j
 unfold fireL
 rw [List.getElem?_map, List.getElem?_set]
 have hlt := (List.getElem?_eq_some_iff.1 hd).1
 by_cases hij : i = j
 ·
  subst hij
  rw [if_pos rfl, if_pos hlt, hd]
  simp [fire1]
 rw [if_neg hij]
 cases hj : l[j]? with
 | none => rfl
 | some a =>
  have hne : a.Id ≠ d.Id := by
   rcases Nat.lt_or_gt_of_ne hij with h1 | h1
   ·
    have := srt_adj hs hj hd h1; omega
   have := srt_adj hs hd hj h1; omega
  simp [fire1, hne]
theorem at_of {l : List DJob} (h : jobsOk l = true) {i : Nat} {d : DJob} (hd : l[i]? = some d) : at_ DJob.Id d.Id l = some d := (set_at (jobsOk_srt h).2.1 hd rfl).2.2.1
end Go.G8
namespace Go.Proofs.YtfhaooaajpopmaaGreat
open Go.RowKit Go.G8
theorem sJobAt_c (w : World) (s : Value) (l : List DJob) (id : Int) (h : Ints 5 w s (flJob l)) (hp : jobsOk l = true) :
  Calls Tryz.prog 89 #[s, .int .i64 id] w (RetV w (.tuple #[.agg #[.int .i64 (jget l id).Id, .int .i64 (jget l id).Due, .int .i64 (jget l id).Key, .int .i64 (jget l id).Value, .int .i64 (jget l id).Fired], .bool (jhas l id)])) := by
 obtain ⟨a, cap, rfl, hcap, hm, ha⟩ := h.recs (f := DJob.ints) (fun _ => rfl) dC
 have HA := Lib.hid ha
 have HV := Lib.hid hp
 have HS := Lib.hid h
 clear ha hp h
 unfold maxLen at hm
 have E1 : Ext w (w.alloc (.cells #[.int .i64 0, .int .i64 0, .int .i64 0, .int .i64 0, .int .i64 0] 86)) := (Ext.refl _).alloc _
 have KR1 : Blk (w.alloc (.cells #[.int .i64 0, .int .i64 0, .int .i64 0, .int .i64 0, .int .i64 0] 86)) w.heap.size 86 #[.int .i64 0, .int .i64 0, .int .i64 0, .int .i64 0, .int .i64 0] := Blk.new _ _ _
 go_enter Tryz.func89, Tryz.ntmps89
 go_wp2_with fail
 refine (sJobsOk_c _ _ l (HS.out.ext E1)).mono ?_
 rintro e w1 ⟨rfl, hx1⟩
 rw [HV.out]
 have KR2 := KR1.ext hx1
 have E2 := E1.trans hx1
 go_wp2_with fail
 go_loopw [6] (fun i wr => ∃ k : Nat, k ≤ l.length ∧ i = .int .i64 k ∧ Ext w wr ∧ Blk wr w.heap.size 86 #[.int .i64 0, .int .i64 0, .int .i64 0, .int .i64 0, .int .i64 0] ∧ Hid ((l.take k).all (fun p => !decide (p.Id = id)) = true)) (fun i _ => l.length - (intOf i).toNat)
 case atStart => exact ⟨0, Nat.zero_le _, rfl, E2, KR2, Lib.hid (by simp)⟩
 case round =>
  obtain ⟨k, hk, rfl, he, hK, hn⟩ := hrel
  have CK := hK.cell; have FK := hK.frozen; have LK := hK.lt
  by_cases hlt : k < l.length
  ·
   obtain ⟨d, b1, o1, hd, rfl, hb1, c⟩ := HA.out k hlt
   have d0 := he.cell (c 0 _ dC rfl)
   have d1 := he.cell (c 1 _ dC rfl)
   have d2 := he.cell (c 2 _ dC rfl)
   have d3 := he.cell (c 3 _ dC rfl)
   have d4 := he.cell (c 4 _ dC rfl)
   simp only [Nat.add_zero] at d0
   have HD := Lib.hid hd
   clear c hd
   by_cases hq : d.Id = id
   ·
    subst hq
    have hf : at_ DJob.Id d.Id l = some d := find_at HD.out hn.out (by simp)
    have e1 : jget l d.Id = d := by simp [jget, hf]
    have e2 : jhas l d.Id = true := by simp [jhas, hf]
    have HE1 := Lib.hid e1; have HE2 := Lib.hid e2
    clear hf e1 e2
    go_wp2_with fail
    refine bodyPost_ret (by simp [results, Tryz.results89, go_sem, CK, FK, LK]; try rfl) rfl ?_
    refine ⟨by rw [HE1.out, HE2.out], ?_⟩
    (repeat (refine Ext.setCell ?_ (Nat.le_refl _) _)); exact he
   go_wp2_with fail
   go_roundw
   case rel => exact ⟨k + 1, by omega, by go_num, he, hK, Lib.hid (all_step HD.out hn.out (by simp [hq]))⟩
   case measure => simp [intOf]; omega
  obtain rfl : k = l.length := by omega
  have hn' := hn.out
  rw [List.take_length] at hn'
  have hf : at_ DJob.Id id l = none := find_none hn'
  have e1 : jget l id = ⟨0, 0, 0, 0, 0⟩ := by simp [jget, hf]
  have e2 : jhas l id = false := by simp [jhas, hf]
  have HE1 := Lib.hid e1; have HE2 := Lib.hid e2
  clear hf e1 e2 hn'
  go_wp2_with fail
  refine bodyPost_ret (by simp [results, Tryz.results89, go_sem, CK, FK, LK]; try rfl) rfl ?_
  refine ⟨by rw [HE1.out, HE2.out], ?_⟩
  (repeat (refine Ext.setCell ?_ (Nat.le_refl _) _)); exact he
theorem sJobAdded_c (w : World) (s : Value) (l : List DJob) (x0 x1 x2 x3 x4 : Int) (h : Ints 5 w s (flJob l)) :
  Calls Tryz.prog 87 #[s, .agg #[.int .i64 x0, .int .i64 x1, .int .i64 x2, .int .i64 x3, .int .i64 x4]] w (Ret w fun r w' => ∃ u, r = .tuple #[u, .bool (addOk l ⟨x0, x1, x2, x3, x4⟩)] ∧ OwnI w.heap.size 86 5 w' u (flJob (addR l ⟨x0, x1, x2, x3, x4⟩))) := by
 obtain ⟨a0, cap0, rfl, hcap, hm, _⟩ := h.recs (f := DJob.ints) (fun _ => rfl) dC
 have HS := Lib.hid h
 clear h
 unfold maxLen at hm
 obtain ⟨i0, hi, hz0, hz1, hz2⟩ := info_parts info_Job
 have E1 : Ext w (w.alloc (.cells #[.int .i64 x0, .int .i64 x1, .int .i64 x2, .int .i64 x3, .int .i64 x4] 86)) := (Ext.refl _).alloc _
 have KD1 : Blk (w.alloc (.cells #[.int .i64 x0, .int .i64 x1, .int .i64 x2, .int .i64 x3, .int .i64 x4] 86)) w.heap.size 86 #[.int .i64 x0, .int .i64 x1, .int .i64 x2, .int .i64 x3, .int .i64 x4] := Blk.new _ _ _
 go_enter Tryz.func87, Tryz.ntmps87
 go_wp2_with fail
 refine (sJobsOk_c _ _ l (HS.out.ext E1)).mono ?_
 rintro e w1 ⟨rfl, hx1⟩
 have E2 : Ext w w1 := E1.trans hx1
 have hs1 := E2.size
 have KD2 := KD1.ext hx1
 have hs2 := KD2.lt
 clear KD1 E1 hx1
 cases hp : jobsOk l
 ·
  have e1 : addOk l ⟨x0, x1, x2, x3, x4⟩ = false := by simp [addOk, hp]
  have e2 : addR l ⟨x0, x1, x2, x3, x4⟩ = [] := by simp [addR, hp]
  have HE1 := Lib.hid e1; have HE2 := Lib.hid e2
  clear e1 e2
  go_wp2_with fail
  go_ret2
  refine ⟨_, rfl, ?_, _, by (rw [HE1.out]; try rfl), ?_⟩
  ·
   exact xT
  rw [HE2.out]
  exact OwnI.mono (OwnI.lit0 w1 _ _) hs1
 have HP := Lib.hid hp
 have hln := jobsOk_len hp
 have CD2 := KD2.cell
 go_wp2_with fail
 refine (sJobAt_c _ _ l x0 (HS.out.ext E2) hp).mono ?_
 rintro e w3 ⟨rfl, hx3⟩
 have E3 := E2.trans hx3
 have KD3 := KD2.ext hx3
 have hs3 := hx3.size
 have CD3 := KD3.cell; have LD3 := KD3.lt
 clear CD2 KD2
 go_wp2_with fail
 refine (sJobOk_c _ x0 x1 x2 x3 x4).mono ?_
 rintro e w4 ⟨rfl, hx4⟩
 have X34 : Ext w3 w4 := Ext.trans ((Ext.refl _).alloc _) hx4
 have E4 := E3.trans X34
 have KD4 := KD3.ext X34
 have hs4 := X34.size
 clear CD3 LD3 KD3 hx4
 have CD4 := KD4.cell; have LD4 := KD4.lt
 cases hj : jobOk ⟨x0, x1, x2, x3, x4⟩
 ·
  have e1 : addOk l ⟨x0, x1, x2, x3, x4⟩ = false := by
   simp [addOk, hj]
  have e2 : addR l ⟨x0, x1, x2, x3, x4⟩ = l := by unfold addR; rw [if_pos HP.out, if_neg (by rw [e1]; simp)]
  have HE1 := Lib.hid e1; have HE2 := Lib.hid e2
  clear e1 e2
  go_wp2_with fail
  refine (l15Copy_c _ _ l (HS.out.ext xT) oM).mono ?_
  rintro e wz ⟨_, rfl, hxz, gz⟩
  obtain ⟨ta, tn, tc, rfl⟩ := gz.shape
  have hzz := hxz.size
  (try simp only [World.size_alloc] at hzz)
  go_wp2_with fail
  go_ret2
  refine ⟨_, rfl, ?_, _, by (rw [HE1.out]; try rfl), ?_⟩
  ·
   exact xT
  rw [HE2.out]
  exact gz.mono (by (try simp only [World.size_alloc]); omega)
 by_cases hf : x4 = 0
 rotate_left
 ·
  have e1 : addOk l ⟨x0, x1, x2, x3, x4⟩ = false := by
   simp [addOk, hf]
  have e2 : addR l ⟨x0, x1, x2, x3, x4⟩ = l := by unfold addR; rw [if_pos HP.out, if_neg (by rw [e1]; simp)]
  have HE1 := Lib.hid e1; have HE2 := Lib.hid e2
  clear e1 e2
  go_wp2_with fail
  refine (l15Copy_c _ _ l (HS.out.ext xT) oM).mono ?_
  rintro e wz ⟨_, rfl, hxz, gz⟩
  obtain ⟨ta, tn, tc, rfl⟩ := gz.shape
  have hzz := hxz.size
  (try simp only [World.size_alloc] at hzz)
  go_wp2_with fail
  go_ret2
  refine ⟨_, rfl, ?_, _, by (rw [HE1.out]; try rfl), ?_⟩
  ·
   exact xT
  rw [HE2.out]
  exact gz.mono (by (try simp only [World.size_alloc]); omega)
 subst hf
 cases ht : jhas l x0
 rotate_left
 ·
  have e1 : addOk l ⟨x0, x1, x2, x3, 0⟩ = false := by
   unfold jhas at ht; simp [addOk, ht]
  have e2 : addR l ⟨x0, x1, x2, x3, 0⟩ = l := by unfold addR; rw [if_pos HP.out, if_neg (by rw [e1]; simp)]
  have HE1 := Lib.hid e1; have HE2 := Lib.hid e2
  clear e1 e2
  go_wp2_with fail
  refine (l15Copy_c _ _ l (HS.out.ext xT) oM).mono ?_
  rintro e wz ⟨_, rfl, hxz, gz⟩
  obtain ⟨ta, tn, tc, rfl⟩ := gz.shape
  have hzz := hxz.size
  (try simp only [World.size_alloc] at hzz)
  go_wp2_with fail
  go_ret2
  refine ⟨_, rfl, ?_, _, by (rw [HE1.out]; try rfl), ?_⟩
  ·
   exact xT
  rw [HE2.out]
  exact gz.mono (by (try simp only [World.size_alloc]); omega)
 by_cases h8I : (8 : Int) ≤ (l.length : Int)
 ·
  have e1 : addOk l ⟨x0, x1, x2, x3, 0⟩ = false := by
   (have h8n : ¬ l.length < 8 := oM); simp [addOk, h8n]
  have e2 : addR l ⟨x0, x1, x2, x3, 0⟩ = l := by unfold addR; rw [if_pos HP.out, if_neg (by rw [e1]; simp)]
  have HE1 := Lib.hid e1; have HE2 := Lib.hid e2
  clear e1 e2
  go_wp2_with fail
  refine (l15Copy_c _ _ l (HS.out.ext xT) oM).mono ?_
  rintro e wz ⟨_, rfl, hxz, gz⟩
  obtain ⟨ta, tn, tc, rfl⟩ := gz.shape
  have hzz := hxz.size
  (try simp only [World.size_alloc] at hzz)
  go_wp2_with fail
  go_ret2
  refine ⟨_, rfl, ?_, _, by (rw [HE1.out]; try rfl), ?_⟩
  ·
   exact xT
  rw [HE2.out]
  exact gz.mono (by (try simp only [World.size_alloc]); omega)
 have h8J : (l.length : Int) < 8 := by omega
 have h8n : l.length < 8 := by omega
 have e1 : addOk l ⟨x0, x1, x2, x3, 0⟩ = true := by unfold jhas at ht; unfold addOk; rw [hp, hj]; simp [ht, h8n]
 have e2 : addR l ⟨x0, x1, x2, x3, 0⟩ = addL l ⟨x0, x1, x2, x3, 0⟩ := by unfold addR; rw [if_pos hp, if_pos e1]
 have hL := addL_ok e1
 have hL0 := jobs_low1 hL
 have hL1 := jobs_low21 hL
 have hLn := jobsOk_len hL
 have HE1 := Lib.hid e1; have HE2 := Lib.hid e2
 have HN := fun k => Lib.hid (add_next (j := ⟨x0, x1, x2, x3, 0⟩) (k := k) hp)
 simp only [] at HN
 clear e1 e2 hL
 obtain ⟨L, hLL⟩ : ∃ L, L = addL l ⟨x0, x1, x2, x3, 0⟩ := ⟨_, rfl⟩
 rw [← hLL] at hL0 hL1 hLn
 have HLL := Lib.hid hLL
 simp only [← hLL] at HN
 clear hLL
 go_wp2_with fail
 go_loopw [8, 9] (fun out kk wr => ∃ k : Nat, 1 ≤ k ∧ k ≤ 21 ∧ kk = .int .i64 k ∧ Ext w4 wr ∧ OwnI w4.heap.size 86 5 wr out (flJob (low DJob.Id k L))) (fun _ kk _ => 21 - (intOf kk).toNat)
 case atStart => exact ⟨1, Nat.le_refl _, by omega, rfl, (Ext.refl _).alloc _, by rw [show ((1 : Nat) : Int) = 1 from rfl, hL0]; exact OwnI.lit0 w4 _ _⟩
 case round =>
  obtain ⟨k, hk1, hk, rfl, he, hown⟩ := hrel
  obtain ⟨a1, n1, c1, rfl⟩ := hown.shape
  have hzr := he.size
  have hlo := low_len DJob.Id (k : Int) L
  have KDr := KD4.ext he
  by_cases hlt : (k : Int) ≤ 20
  ·
   go_wp2_with fail
   refine (sJobAt_c _ _ l (k : Int) (HS.out.ext (E4.trans he)) hp).mono ?_
   rintro e w5 ⟨rfl, hx5⟩
   have hz5 := hx5.size
   have hown5 := Own.ext hown hx5
   have he5 : Ext w4 w5 := he.trans hx5
   have KD5 := KDr.ext hx5
   have CD5 := KD5.cell; have LD5 := KD5.lt
   have HNk := HN (k : Int)
   by_cases hkk : (k : Int) = x0
   ·
    subst hkk
    have HNk2 := Lib.hid (show low DJob.Id ((k : Int) + 1) L = low DJob.Id (k : Int) L ++ [⟨(k : Int), x1, x2, x3, 0⟩] by rw [HNk.out]; simp)
    clear HNk
    go_wp2_with (first | (at_builtin; refine wp_append rfl _ _ 58 rfl 86 i0 _ 5 40 Tryz.underlying58 hi hz0 hz1 hz2 rfl dC (w4.heap.size) _ _ rfl (Own.ext hown5 ((((Ext.refl _).alloc _).alloc _))) _ (([(k : Int), x1, x2, x3, 0] : List Int).map (.int .i64)) rfl (Sl.oneAt (w5.alloc _) #[.int .i64 (k : Int), .int .i64 x1, .int .i64 x2, .int .i64 x3, .int .i64 0] _ 5 _ (by simp) rfl) (ints_oneCell _ _) 1000 (by simp only [List.length_map, List.length_cons, List.length_nil, length_flJob]; omega) (by unfold maxLen; omega) oM (by simp; omega) w4 (((he5.alloc _).alloc _)) oM ?_; rotate_right; intro v1 wa hown1 hea _))
    go_roundw
    case rel =>
     refine ⟨k + 1, by omega, by omega, by go_num, hea, ?_⟩
     rw [show ((k + 1 : Nat) : Int) = (k : Int) + 1 by omega, HNk2.out, flJob_one]
     simpa [OwnI] using hown1
    case measure => simp [intOf]; omega
   cases hvh : jhas l (k : Int)
   ·
    go_wp2_with fail
    go_roundw
    case rel =>
     refine ⟨k + 1, by omega, by omega, by go_num, xT, ?_⟩
     rw [show ((k + 1 : Nat) : Int) = (k : Int) + 1 by omega, HNk.out, if_neg hkk, jhas_none hvh, List.append_nil]
     exact Own.ext hown5 xT
    case measure => simp [intOf]; omega
   go_wp2_with (first | (at_builtin; refine wp_append rfl _ _ 58 rfl 86 i0 _ 5 40 Tryz.underlying58 hi hz0 hz1 hz2 rfl dC (w4.heap.size) _ _ rfl (Own.ext hown5 ((((Ext.refl _).alloc _).alloc _))) _ (([(jget l (k : Int)).Id, (jget l (k : Int)).Due, (jget l (k : Int)).Key, (jget l (k : Int)).Value, (jget l (k : Int)).Fired] : List Int).map (.int .i64)) rfl (Sl.oneAt (w5.alloc _) #[.int .i64 (jget l (k : Int)).Id, .int .i64 (jget l (k : Int)).Due, .int .i64 (jget l (k : Int)).Key, .int .i64 (jget l (k : Int)).Value, .int .i64 (jget l (k : Int)).Fired] _ 5 _ (by simp) rfl) (ints_oneCell _ _) 1000 (by simp only [List.length_map, List.length_cons, List.length_nil, length_flJob]; omega) (by unfold maxLen; omega) oM (by simp; omega) w4 (((he5.alloc _).alloc _)) oM ?_; rotate_right; intro v1 wa hown1 hea _))
   go_roundw
   case rel =>
    refine ⟨k + 1, by omega, by omega, by go_num, hea, ?_⟩
    rw [show ((k + 1 : Nat) : Int) = (k : Int) + 1 by omega, HNk.out, if_neg hkk, jhas_some hvh, flJob_one]
    simpa [OwnI] using hown1
   case measure => simp [intOf]; omega
  obtain rfl : k = 21 := by omega
  rw [show ((21 : Nat) : Int) = 21 from rfl, hL1] at hown
  go_wp2_with fail
  go_ret2
  exact ⟨_, rfl, E4.trans he, _, by (rw [HE1.out]; try rfl), by rw [HE2.out, ← HLL.out]; exact hown.mono (by have := E4.size; omega)⟩
end Go.Proofs.YtfhaooaajpopmaaGreat
namespace Go.G8
open Go.RowKit
def ixK (l : List DJob) (index : Int) : Nat → Int
 | 0 => index
 | k + 1 => match l[k]? with | some d => if d.Fired = ixK l index k then 0 else ixK l index k | none => ixK l index k
def atK (l : List DJob) (id : Int) : Nat → Int
 | 0 => -1
 | k + 1 => match l[k]? with | some d => if d.Id = id ∧ d.Fired = 0 then (k : Int) else atK l id k | none => atK l id k
theorem ixK_eq (l : List DJob) (index : Int) : ∀ k, (ixK l index k = index ∧ ∀ i d, i < k → l[i]? = some d → d.Fired ≠ index) ∨ (ixK l index k = 0 ∧ ∃ i d, i < k ∧ l[i]? = some d ∧ d.Fired = index)
 | 0 => .inl ⟨rfl, fun i d h => by omega⟩
 | k + 1 => by
  have ih := ixK_eq l index k
  unfold ixK
  cases hk : l[k]? with
  | none =>
   simp only []
   rcases ih with ⟨h1, h2⟩ | ⟨h1, i, d, h2, h3, h4⟩
   ·
    refine .inl ⟨h1, fun i d hi hd => ?_⟩
    by_cases e : i = k
    ·
     subst e; rw [hk] at hd; cases hd
    exact h2 i d oM hd
   exact .inr ⟨h1, i, d, by omega, h3, h4⟩
  | some a =>
   simp only []
   rcases ih with ⟨h1, h2⟩ | ⟨h1, i, d, h2, h3, h4⟩
   ·
    rw [h1]
    by_cases e : a.Fired = index
    ·
     rw [if_pos e]; exact .inr ⟨rfl, k, a, by omega, hk, e⟩
    rw [if_neg e]
    refine .inl ⟨rfl, fun i d hi hd => ?_⟩
    by_cases e2 : i = k
    ·
     subst e2; rw [hk] at hd; obtain rfl := Option.some.inj hd; exact e
    exact h2 i d oM hd
   refine .inr ⟨?_, i, d, by omega, h3, h4⟩
   rw [h1]; split <;> rfl
theorem atK_eq (l : List DJob) (id : Int) : ∀ k, (atK l id k = -1 ∧ ∀ i d, i < k → l[i]? = some d → ¬ (d.Id = id ∧ d.Fired = 0)) ∨ (∃ (i : Nat) (d : DJob), atK l id k = (i : Int) ∧ i < k ∧ l[i]? = some d ∧ d.Id = id ∧ d.Fired = 0)
 | 0 => .inl ⟨rfl, fun i d h => by omega⟩
 | k + 1 => by
  have ih := atK_eq l id k
  unfold atK
  cases hk : l[k]? with
  | none =>
   simp only []
   rcases ih with ⟨h1, h2⟩ | ⟨i, d, h1, h2, h3⟩
   ·
    refine .inl ⟨h1, fun i d hi hd => ?_⟩
    by_cases e : i = k
    ·
     subst e; rw [hk] at hd; cases hd
    exact h2 i d oM hd
   exact .inr ⟨i, d, h1, by omega, h3⟩
  | some a =>
   simp only []
   by_cases e : a.Id = id ∧ a.Fired = 0
   ·
    rw [if_pos e]; exact .inr ⟨k, a, rfl, by omega, hk, e⟩
   rw [if_neg e]
   rcases ih with ⟨h1, h2⟩ | ⟨i, d, h1, h2, h3⟩
   ·
    refine .inl ⟨h1, fun i d hi hd => ?_⟩
    by_cases e2 : i = k
    ·
     subst e2; rw [hk] at hd; obtain rfl := Option.some.inj hd; exact e
    exact h2 i d oM hd
   exact .inr ⟨i, d, h1, by omega, h3⟩
theorem fire_yes {l : List DJob} {id index : Int} (hp : jobsOk l = true) {i : Nat} {d : DJob} (hd : l[i]? = some d) (h1 : d.Id = id) (h2 : d.Fired = 0) (h3 : inb index 1 2000 = true) (h4 : ∀ i d, i < l.length → l[i]? = some d → d.Fired ≠ index) :
  fireOk l id index = true ∧ fireR l id index = l.set i ⟨d.Id, d.Due, d.Key, d.Value, index⟩ := by
 have ha : at_ DJob.Id id l = some d := by rw [← h1]; exact at_of hp hd
 have h : fireOk l id index = true := by
  simp only [fireOk, Bool.and_eq_true, ha]
  refine ⟨hp, by simpa using h2, h3, List.all_eq_true.2 fun a hm => ?_⟩
  obtain ⟨q, hq⟩ := List.mem_iff_getElem?.1 hm
  have := h4 q a (List.getElem?_eq_some_iff.1 hq).1 hq
  simpa using this
 refine ⟨h, ?_⟩
 unfold fireR
 rw [if_pos hp, if_pos h, ← h1]
 exact fire_set hp hd index
theorem fire_no {l : List DJob} {id index : Int} (hp : jobsOk l = true) (h : (∀ i d, i < l.length → l[i]? = some d → ¬ (d.Id = id ∧ d.Fired = 0)) ∨ inb index 1 2000 = false ∨ ∃ i d, i < l.length ∧ l[i]? = some d ∧ d.Fired = index) :
  fireOk l id index = false ∧ fireR l id index = l := by
 have hf : fireOk l id index = false := by
  cases hq : fireOk l id index
  ·
   rfl
  simp only [fireOk, Bool.and_eq_true] at hq
  obtain ⟨q1, q2, q3, q4⟩ := hq
  rcases h with h | h | ⟨i, d, hi, hd, he⟩
  ·
   cases ha : at_ DJob.Id id l with
   | none => rw [ha] at q2; cases q2
   | some j =>
    rw [ha] at q2
    obtain ⟨hm, hk⟩ := at_some ha
    obtain ⟨i, hi⟩ := List.mem_iff_getElem?.1 hm
    exact absurd ⟨hk, by simpa using q2⟩ (h i j (List.getElem?_eq_some_iff.1 hi).1 hi)
  ·
   rw [h] at q3; cases q3
  have := List.all_eq_true.1 q4 d (List.mem_of_getElem? hd)
  simp [he] at this
 exact ⟨hf, by unfold fireR; rw [if_pos hp, if_neg (by rw [hf]; simp)]⟩
end Go.G8
namespace Go.Proofs.YtfhaooaajpopmaaGreat
open Go.RowKit Go.G8
theorem sJobFired_c (w : World) (s : Value) (l : List DJob) (id index : Int) (h : Ints 5 w s (flJob l)) :
  Calls Tryz.prog 90 #[s, .int .i64 id, .int .i64 index] w (Ret w fun r w' => ∃ u, r = .tuple #[u, .bool (fireOk l id index)] ∧ OwnI w.heap.size 86 5 w' u (flJob (fireR l id index))) := by
 obtain ⟨a, cap, rfl, hcap, hm, ha⟩ := h.recs (f := DJob.ints) (fun _ => rfl) dC
 have HA := Lib.hid ha
 have HS := Lib.hid h
 clear ha h
 unfold maxLen at hm
 go_enter Tryz.func90, Tryz.ntmps90
 go_wp2_with fail
 refine (sJobsOk_c _ _ l HS.out).mono ?_
 rintro e w1 ⟨rfl, hx1⟩
 have hs1 := hx1.size
 cases hp : jobsOk l
 ·
  have e1 : fireOk l id index = false := by simp [fireOk, hp]
  have e2 : fireR l id index = [] := by simp [fireR, hp]
  have HE1 := Lib.hid e1; have HE2 := Lib.hid e2
  clear e1 e2
  go_wp2_with fail
  go_ret2
  refine ⟨_, rfl, ?_, _, by (rw [HE1.out]; try rfl), ?_⟩
  ·
   exact xT
  rw [HE2.out]
  exact OwnI.mono (OwnI.lit0 w1 _ _) hs1
 have HP := Lib.hid hp
 have hln := jobsOk_len hp
 clear hp
 go_wp2_with fail
 refine (l15Copy_c _ _ l (HS.out.ext hx1) oM).mono ?_
 rintro e w2 ⟨_, rfl, hx2, g⟩
 have hs2 := hx2.size
 have E2 : Ext w w2 := hx1.trans hx2
 obtain ⟨ta, tn, tc, rfl, hl0, hc0, hm0, hg0⟩ := Own.open_ g
 have htn : tn = l.length := by simp only [List.length_map, length_flJob] at hl0; omega
 subst htn
 clear hl0
 go_wp2_with fail
 go_loopw [2, 9, 10] (fun ix pl ii wr => ∃ k : Nat, k ≤ l.length ∧ ii = .int .i64 k ∧ ix = .int .i64 (ixK l index k) ∧ pl = .int .i64 (atK l id k) ∧ Ext w2 wr ∧ OwnI w1.heap.size 86 5 wr (.slice ta l.length tc) (flJob l)) (fun _ _ ii _ => l.length - (intOf ii).toNat)
 case atStart => exact ⟨0, Nat.zero_le _, rfl, rfl, rfl, Ext.refl _, g⟩
 case round =>
  obtain ⟨k, hk, rfl, rfl, rfl, he, hown⟩ := hrel
  by_cases hlt : k < l.length
  ·
   obtain ⟨d, b1, o1, hd, rfl, hb1, c⟩ := HA.out k hlt
   have d0 := (E2.trans he).cell (c 0 _ dC rfl)
   have d4 := (E2.trans he).cell (c 4 _ dC rfl)
   simp only [Nat.add_zero] at d0
   have HX := Lib.hid (show ixK l index (k + 1) = if d.Fired = ixK l index k then 0 else ixK l index k by simp [ixK, hd])
   have HT := Lib.hid (show atK l id (k + 1) = if d.Id = id ∧ d.Fired = 0 then (k : Int) else atK l id k by simp [atK, hd])
   clear c hd
   obtain ⟨x, hx⟩ : ∃ x, x = ixK l index k := ⟨_, rfl⟩
   rw [← hx] at HX ⊢
   obtain ⟨y, hy⟩ : ∃ y, y = atK l id k := ⟨_, rfl⟩
   rw [← hy] at HT ⊢
   clear hx hy
   by_cases hq : d.Fired = x
   all_goals
    by_cases hi : d.Id = id
    all_goals
     by_cases hz : d.Fired = 0
     all_goals
      go_wp2_with fail
      go_roundw
      case rel => exact ⟨k + 1, by omega, by go_num, by rw [HX.out]; simp_all, by rw [HT.out]; simp_all, he, hown⟩
      case measure => simp [intOf]; omega
  obtain rfl : k = l.length := by omega
  have hix := ixK_eq l index l.length
  rcases atK_eq l id l.length with ⟨ha1, ha2⟩ | ⟨i, d, ha1, hil, hd, hd1, hd2⟩
  ·
   rw [ha1]
   obtain ⟨e1, e2⟩ := fire_no (id := id) (index := index) HP.out (.inl ha2)
   have HE1 := Lib.hid e1; have HE2 := Lib.hid e2
   clear e1 e2
   go_wp2_with fail
   go_ret2
   refine ⟨_, rfl, ?_, _, by (rw [HE1.out]; try rfl), ?_⟩
   ·
    exact E2.trans he
   rw [HE2.out]
   exact hown.mono oM
  rw [ha1]
  obtain ⟨x, hx⟩ : ∃ x, x = ixK l index l.length := ⟨_, rfl⟩
  rw [← hx] at hix ⊢
  clear hx
  go_wp2_with fail
  refine (l1In_c _ x 1 2000).mono ?_
  rintro e wr' ⟨rfl, rfl⟩
  cases hin : inb x 1 2000
  ·
   have hno : inb index 1 2000 = false ∨ ∃ i d, i < l.length ∧ l[i]? = some d ∧ d.Fired = index := by
    rcases hix with ⟨h1, _⟩ | ⟨_, h2⟩
    ·
     left; rw [← h1]; exact hin
    right; exact h2
   have HQ := Lib.hid hno
   clear hno hix hin
   obtain ⟨e1, e2⟩ := fire_no (id := id) (index := index) HP.out (.inr HQ.out)
   have HE1 := Lib.hid e1; have HE2 := Lib.hid e2
   clear e1 e2
   go_wp2_with fail
   go_ret2
   refine ⟨_, rfl, ?_, _, by (rw [HE1.out]; try rfl), ?_⟩
   ·
    exact E2.trans he
   rw [HE2.out]
   exact hown.mono oM
  rcases hix with ⟨h1, h2⟩ | ⟨h1, _⟩
  rotate_left
  ·
   rw [h1] at hin; cases hin
  rw [h1] at hin ⊢
  obtain ⟨e1, e2⟩ := fire_yes HP.out hd hd1 hd2 hin h2
  have HE1 := Lib.hid e1; have HE2 := Lib.hid e2; have HD := Lib.hid hd
  have hset := flJob_set hd index
  have hget : (flJob l)[i * 5 + 4]? = some d.Fired := by
   have := flat_get DJob.ints (n := 5) (fun _ => rfl) l i 4 d hd dC
   simpa [flJob, DJob.ints] using this
  have HS2 := Lib.hid hset
  have hlen : i * 5 + 4 < (flJob l).length := (List.getElem?_eq_some_iff.1 hget).1
  have hilI : (i : Int) < (l.length : Int) := by omega
  clear e1 e2 h2 hin hd hset
  obtain ⟨_, _, _, e9, _, _, _, hor⟩ := Own.open_ hown
  injection e9 with e91 e92 e93
  rcases hor with h0 | ⟨g9, cur, e94, hB, hG, hsz, hpre⟩
  ·
   omega
  rw [e94] at e91
  subst e91
  have hcell : wr.cell? ⟨g9, i * 5 + 4, none⟩ = some (.int .i64 d.Fired) := by
   rw [hG.cell, hpre _ (by rw [← e92]; simp only [length_flJob] at hlen; exact hlen), List.getElem?_map, hget]; rfl
  have FG := hG.frozen
  clear hpre hsz e92 e93 e94
  go_wp2_with fail
  go_ret2
  refine ⟨_, rfl, ?_, _, by (rw [HE1.out]; try rfl), ?_⟩
  ·
   exact (E2.trans he).setCell oM _
  rw [HE2.out, ← HS2.out]
  exact (OwnI.set hown hlen index).mono oM
theorem l7Key_e (w : World) (c0_0 : Int) :
  Calls Tryz.prog 45 #[.int .i64 c0_0] w (fun e w' => e = .returned (.bool (inb c0_0 0 9)) ∧ w = w') := by
 have rsize_setRow := @size_setRow
 have rcell_setRow_lt := @cell_setRow_lt
 have rcell_setRow_gt := @cell_setRow_gt
 have rfrozen_setRow_lt := @frozen_setRow_lt
 have rfrozen_setRow_gt := @frozen_setRow_gt
 go_enter Tryz.func45, Tryz.ntmps45
 go_wp2_with (first | (go_at_call 21; refine (l1In_c _ _ _ _  ).mono ?_; rintro e wa ⟨rfl, rfl⟩))
 all_goals
  go_ret
  refine ⟨by first | rfl | (simp [*]; done) | (simp [*]; omega) | (simp_all [bq, bn]; done) | (simp_all [bq, bn]; omega), by rfl⟩
theorem l7Value_e (w : World) (c0_0 : Int) :
  Calls Tryz.prog 46 #[.int .i64 c0_0] w (fun e w' => e = .returned (.bool (inb c0_0 0 999)) ∧ w = w') := by
 have rsize_setRow := @size_setRow
 have rcell_setRow_lt := @cell_setRow_lt
 have rcell_setRow_gt := @cell_setRow_gt
 have rfrozen_setRow_lt := @frozen_setRow_lt
 have rfrozen_setRow_gt := @frozen_setRow_gt
 go_enter Tryz.func46, Tryz.ntmps46
 go_wp2_with (first | (go_at_call 21; refine (l1In_c _ _ _ _  ).mono ?_; rintro e wa ⟨rfl, rfl⟩))
 all_goals
  go_ret
  refine ⟨by first | rfl | (simp [*]; done) | (simp [*]; omega) | (simp_all [bq, bn]; done) | (simp_all [bq, bn]; omega), by rfl⟩
theorem l7Id_e (w : World) (c0_0 : Int) :
  Calls Tryz.prog 47 #[.int .i64 c0_0] w (fun e w' => e = .returned (.bool (idOk c0_0)) ∧ w = w') := by
 have rsize_setRow := @size_setRow
 have rcell_setRow_lt := @cell_setRow_lt
 have rcell_setRow_gt := @cell_setRow_gt
 have rfrozen_setRow_lt := @frozen_setRow_lt
 have rfrozen_setRow_gt := @frozen_setRow_gt
 go_enter Tryz.func47, Tryz.ntmps47
 go_wp2_with (first | (go_at_call 21; refine (l1In_c _ _ _ _  ).mono ?_; rintro e wa ⟨rfl, rfl⟩))
 all_goals
  go_ret
  refine ⟨by first | rfl | (simp [idOk, *]; done) | (simp [idOk, *]; omega) | (simp_all [idOk, bq, bn]; done) | (simp_all [idOk, bq, bn]; omega), by rfl⟩
theorem l7Seq_e (w : World) (c0_0 : Int) :
  Calls Tryz.prog 29 #[.int .i64 c0_0] w (fun e w' => e = .returned (.bool (inb c0_0 1 2000)) ∧ w = w') := by
 have rsize_setRow := @size_setRow
 have rcell_setRow_lt := @cell_setRow_lt
 have rcell_setRow_gt := @cell_setRow_gt
 have rfrozen_setRow_lt := @frozen_setRow_lt
 have rfrozen_setRow_gt := @frozen_setRow_gt
 go_enter Tryz.func29, Tryz.ntmps29
 go_wp2_with (first | (go_at_call 21; refine (l1In_c _ _ _ _  ).mono ?_; rintro e wa ⟨rfl, rfl⟩))
 all_goals
  go_ret
  refine ⟨by first | rfl | (simp [*]; done) | (simp [*]; omega) | (simp_all [bq, bn]; done) | (simp_all [bq, bn]; omega), by rfl⟩
theorem l7Index_e (w : World) (c0_0 : Int) :
  Calls Tryz.prog 30 #[.int .i64 c0_0] w (fun e w' => e = .returned (.bool (inb c0_0 1 2000)) ∧ w = w') := by
 have rsize_setRow := @size_setRow
 have rcell_setRow_lt := @cell_setRow_lt
 have rcell_setRow_gt := @cell_setRow_gt
 have rfrozen_setRow_lt := @frozen_setRow_lt
 have rfrozen_setRow_gt := @frozen_setRow_gt
 go_enter Tryz.func30, Tryz.ntmps30
 go_wp2_with (first | (go_at_call 21; refine (l1In_c _ _ _ _  ).mono ?_; rintro e wa ⟨rfl, rfl⟩))
 all_goals
  go_ret
  refine ⟨by first | rfl | (simp [*]; done) | (simp [*]; omega) | (simp_all [bq, bn]; done) | (simp_all [bq, bn]; omega), by rfl⟩
theorem sAskerOk_e (w : World) (c0_0 : Int) :
  Calls Tryz.prog 28 #[.int .i64 c0_0] w (fun e w' => e = .returned (.bool (inb c0_0 2 5)) ∧ w = w') := by
 have rsize_setRow := @size_setRow
 have rcell_setRow_lt := @cell_setRow_lt
 have rcell_setRow_gt := @cell_setRow_gt
 have rfrozen_setRow_lt := @frozen_setRow_lt
 have rfrozen_setRow_gt := @frozen_setRow_gt
 go_enter Tryz.func28, Tryz.ntmps28
 go_wp2_with (first | (go_at_call 21; refine (l1In_c _ _ _ _  ).mono ?_; rintro e wa ⟨rfl, rfl⟩))
 all_goals
  go_ret
  refine ⟨by first | rfl | (simp [*]; done) | (simp [*]; omega) | (simp_all [bq, bn]; done) | (simp_all [bq, bn]; omega), by rfl⟩
theorem sOpOk_e (w : World) (c0_0 : Int) (c0_1 : Int) (c0_2 : Int) (c0_3 : Int) (c0_4 : Int) :
  Calls Tryz.prog 23 #[.agg #[.int .i64 c0_0, .int .i64 c0_1, .int .i64 c0_2, .int .i64 c0_3, .int .i64 c0_4]] w (RetV w (.bool (opOk (⟨c0_0, c0_1, c0_2, c0_3, c0_4⟩ : DOp)))) := by
 have rsize_setRow := @size_setRow
 have rcell_setRow_lt := @cell_setRow_lt
 have rcell_setRow_gt := @cell_setRow_gt
 have rfrozen_setRow_lt := @frozen_setRow_lt
 have rfrozen_setRow_gt := @frozen_setRow_gt
 go_enter Tryz.func23, Tryz.ntmps23
 go_wp2_with (first | (go_at_call 45; refine (l7Key_e _ _  ).mono ?_; rintro e wa ⟨rfl, rfl⟩) | (go_at_call 46; refine (l7Value_e _ _  ).mono ?_; rintro e wb ⟨rfl, rfl⟩) | (go_at_call 47; refine (l7Id_e _ _  ).mono ?_; rintro e wc ⟨rfl, rfl⟩) | (go_at_call 48; refine (sTimeOk_c _ _  ).mono ?_; rintro e wd ⟨rfl, rfl⟩) | (go_at_call 21; refine (l1In_c _ _ _ _  ).mono ?_; rintro e we ⟨rfl, rfl⟩))
 all_goals
  go_ret
  refine ⟨by first | rfl | (simp [opOk, *]; done) | (simp [opOk, *]; omega) | (simp_all [opOk, bq, bn]; done) | (simp_all [opOk, bq, bn]; omega), ?_⟩
  exact xT
theorem sEntryOk_e (w : World) (c0_0 : Int) (c0_1 : Int) (c0_2 : Int) (c0_3 : Int) (c0_4 : Int) (c0_5 : Int) (c0_6 : Int) (c0_7 : Int) (c0_8 : Int) :
  Calls Tryz.prog 101 #[.agg #[.int .i64 c0_0, .int .i64 c0_1, .int .i64 c0_2, .int .i64 c0_3, .int .i64 c0_4, .int .i64 c0_5, .int .i64 c0_6, .int .i64 c0_7, .int .i64 c0_8]] w (RetV w (.bool (entryOk (⟨c0_0, c0_1, c0_2, c0_3, ⟨c0_4, c0_5, c0_6, c0_7, c0_8⟩⟩ : DEntry)))) := by
 have rsize_setRow := @size_setRow
 have rcell_setRow_lt := @cell_setRow_lt
 have rcell_setRow_gt := @cell_setRow_gt
 have rfrozen_setRow_lt := @frozen_setRow_lt
 have rfrozen_setRow_gt := @frozen_setRow_gt
 go_enter Tryz.func101, Tryz.ntmps101
 go_wp2_with (first | (go_at_call 30; refine (l7Index_e _ _  ).mono ?_; rintro e wa ⟨rfl, rfl⟩) | (go_at_call 48; refine (sTimeOk_c _ _  ).mono ?_; rintro e wb ⟨rfl, rfl⟩) | (go_at_call 28; refine (sAskerOk_e _ _  ).mono ?_; rintro e wc ⟨rfl, rfl⟩) | (go_at_call 29; refine (l7Seq_e _ _  ).mono ?_; rintro e wd ⟨rfl, rfl⟩) | (go_at_call 23; refine (sOpOk_e _ _ _ _ _ _  ).mono ?_; rintro e we ⟨rfl, hxe⟩; have hze := hxe.size; (repeat (first | simp only [World.size_alloc] at hze | simp only [World.size_setCell] at hze | simp only [size_setRow] at hze)); (try have hye_a_0 : wa.heap.size < we.heap.size := oM); (try have hye_a_1 : wa.heap.size + 1 < we.heap.size := oM); (try have hye_a_2 : wa.heap.size + 1 + 1 < we.heap.size := oM); (try have hye_b_0 : wb.heap.size < we.heap.size := oM); (try have hye_b_1 : wb.heap.size + 1 < we.heap.size := oM); (try have hye_b_2 : wb.heap.size + 1 + 1 < we.heap.size := oM); (try have hye_c_0 : wc.heap.size < we.heap.size := oM); (try have hye_c_1 : wc.heap.size + 1 < we.heap.size := oM); (try have hye_c_2 : wc.heap.size + 1 + 1 < we.heap.size := oM); (try have hye_d_0 : wd.heap.size < we.heap.size := oM); (try have hye_d_1 : wd.heap.size + 1 < we.heap.size := oM); (try have hye_d_2 : wd.heap.size + 1 + 1 < we.heap.size := oM); have Ke0 : Blk we (w.heap.size) 95 _ := Blk.ext (by exact blkT) hxe; (try simp only [List.setIfInBounds_toArray, List.set_cons_zero, List.set_cons_succ] at Ke0); have CKe0 := Ke0.cell; have FKe0 := Ke0.frozen; have hye__0 : w.heap.size < we.heap.size := oM; (try (have Ke_a0 : Blk we (wa.heap.size) _ _ := Blk.ext (by exact blkT) hxe; (try simp only [List.setIfInBounds_toArray, List.set_cons_zero, List.set_cons_succ] at Ke_a0); have CKe_a0 := Ke_a0.cell; have FKe_a0 := Ke_a0.frozen)); (try (have Ke_a1 : Blk we (wa.heap.size + 1) _ _ := Blk.ext (by exact blkT) hxe; (try simp only [List.setIfInBounds_toArray, List.set_cons_zero, List.set_cons_succ] at Ke_a1); have CKe_a1 := Ke_a1.cell; have FKe_a1 := Ke_a1.frozen)); (try (have Ke_a2 : Blk we (wa.heap.size + 1 + 1) _ _ := Blk.ext (by exact blkT) hxe; (try simp only [List.setIfInBounds_toArray, List.set_cons_zero, List.set_cons_succ] at Ke_a2); have CKe_a2 := Ke_a2.cell; have FKe_a2 := Ke_a2.frozen)); (try (have Ke_b0 : Blk we (wb.heap.size) _ _ := Blk.ext (by exact blkT) hxe; (try simp only [List.setIfInBounds_toArray, List.set_cons_zero, List.set_cons_succ] at Ke_b0); have CKe_b0 := Ke_b0.cell; have FKe_b0 := Ke_b0.frozen)); (try (have Ke_b1 : Blk we (wb.heap.size + 1) _ _ := Blk.ext (by exact blkT) hxe; (try simp only [List.setIfInBounds_toArray, List.set_cons_zero, List.set_cons_succ] at Ke_b1); have CKe_b1 := Ke_b1.cell; have FKe_b1 := Ke_b1.frozen)); (try (have Ke_b2 : Blk we (wb.heap.size + 1 + 1) _ _ := Blk.ext (by exact blkT) hxe; (try simp only [List.setIfInBounds_toArray, List.set_cons_zero, List.set_cons_succ] at Ke_b2); have CKe_b2 := Ke_b2.cell; have FKe_b2 := Ke_b2.frozen)); (try (have Ke_c0 : Blk we (wc.heap.size) _ _ := Blk.ext (by exact blkT) hxe; (try simp only [List.setIfInBounds_toArray, List.set_cons_zero, List.set_cons_succ] at Ke_c0); have CKe_c0 := Ke_c0.cell; have FKe_c0 := Ke_c0.frozen)); (try (have Ke_c1 : Blk we (wc.heap.size + 1) _ _ := Blk.ext (by exact blkT) hxe; (try simp only [List.setIfInBounds_toArray, List.set_cons_zero, List.set_cons_succ] at Ke_c1); have CKe_c1 := Ke_c1.cell; have FKe_c1 := Ke_c1.frozen)); (try (have Ke_c2 : Blk we (wc.heap.size + 1 + 1) _ _ := Blk.ext (by exact blkT) hxe; (try simp only [List.setIfInBounds_toArray, List.set_cons_zero, List.set_cons_succ] at Ke_c2); have CKe_c2 := Ke_c2.cell; have FKe_c2 := Ke_c2.frozen)); (try (have Ke_d0 : Blk we (wd.heap.size) _ _ := Blk.ext (by exact blkT) hxe; (try simp only [List.setIfInBounds_toArray, List.set_cons_zero, List.set_cons_succ] at Ke_d0); have CKe_d0 := Ke_d0.cell; have FKe_d0 := Ke_d0.frozen)); (try (have Ke_d1 : Blk we (wd.heap.size + 1) _ _ := Blk.ext (by exact blkT) hxe; (try simp only [List.setIfInBounds_toArray, List.set_cons_zero, List.set_cons_succ] at Ke_d1); have CKe_d1 := Ke_d1.cell; have FKe_d1 := Ke_d1.frozen)); (try (have Ke_d2 : Blk we (wd.heap.size + 1 + 1) _ _ := Blk.ext (by exact blkT) hxe; (try simp only [List.setIfInBounds_toArray, List.set_cons_zero, List.set_cons_succ] at Ke_d2); have CKe_d2 := Ke_d2.cell; have FKe_d2 := Ke_d2.frozen))))
 all_goals
  go_ret
  refine ⟨by first | rfl | (simp [entryOk, *]; done) | (simp [entryOk, *]; omega) | (simp_all [entryOk, bq, bn]; done) | (simp_all [entryOk, bq, bn]; omega), ?_⟩
  exact xT
theorem sHoldsAt_e (w : World) (c0_0 : Int) (c0_1 : Int) (c0_2 : Int) (c1_0 : Int) (c2_0 : Int) (c3_0 : Int) :
  Calls Tryz.prog 102 #[.agg #[.int .i64 c0_0, .int .i64 c0_1, .int .i64 c0_2], .int .i64 c1_0, .int .i64 c2_0, .int .i64 c3_0] w (RetV w (.bool (holdsAt (⟨c0_0, c0_1, c0_2⟩ : DLease) c1_0 c2_0 c3_0))) := by
 have rsize_setRow := @size_setRow
 have rcell_setRow_lt := @cell_setRow_lt
 have rcell_setRow_gt := @cell_setRow_gt
 have rfrozen_setRow_lt := @frozen_setRow_lt
 have rfrozen_setRow_gt := @frozen_setRow_gt
 go_enter Tryz.func102, Tryz.ntmps102
 go_wp2_with (first | (go_at_call 93; refine (sLeaseOk_c _ _ _ _  ).mono ?_; rintro e wa ⟨rfl, hxa⟩; have hza := hxa.size; (repeat (first | simp only [World.size_alloc] at hza | simp only [World.size_setCell] at hza | simp only [size_setRow] at hza)); (try have hya_b_0 : wb.heap.size < wa.heap.size := oM); (try have hya_b_1 : wb.heap.size + 1 < wa.heap.size := oM); (try have hya_b_2 : wb.heap.size + 1 + 1 < wa.heap.size := oM); have Ka0 : Blk wa (w.heap.size) 60 _ := Blk.ext (by exact blkT) hxa; (try simp only [List.setIfInBounds_toArray, List.set_cons_zero, List.set_cons_succ] at Ka0); have CKa0 := Ka0.cell; have FKa0 := Ka0.frozen; have hya__0 : w.heap.size < wa.heap.size := oM; (try (have Ka_b0 : Blk wa (wb.heap.size) _ _ := Blk.ext (by exact blkT) hxa; (try simp only [List.setIfInBounds_toArray, List.set_cons_zero, List.set_cons_succ] at Ka_b0); have CKa_b0 := Ka_b0.cell; have FKa_b0 := Ka_b0.frozen)); (try (have Ka_b1 : Blk wa (wb.heap.size + 1) _ _ := Blk.ext (by exact blkT) hxa; (try simp only [List.setIfInBounds_toArray, List.set_cons_zero, List.set_cons_succ] at Ka_b1); have CKa_b1 := Ka_b1.cell; have FKa_b1 := Ka_b1.frozen)); (try (have Ka_b2 : Blk wa (wb.heap.size + 1 + 1) _ _ := Blk.ext (by exact blkT) hxa; (try simp only [List.setIfInBounds_toArray, List.set_cons_zero, List.set_cons_succ] at Ka_b2); have CKa_b2 := Ka_b2.cell; have FKa_b2 := Ka_b2.frozen))) | (go_at_call 66; refine (l16Time_cP _ _  ).mono ?_; rintro e wb ⟨rfl, rfl⟩))
 all_goals
  go_ret
  refine ⟨by first | rfl | (simp [holdsAt, *]; done) | (simp [holdsAt, *]; omega) | (simp_all [holdsAt, bq, bn]; done) | (simp_all [holdsAt, bq, bn]; omega), ?_⟩
  exact xT
theorem sFreeAt_e (w : World) (c0_0 : Int) (c0_1 : Int) (c0_2 : Int) (c1_0 : Int) :
  Calls Tryz.prog 100 #[.agg #[.int .i64 c0_0, .int .i64 c0_1, .int .i64 c0_2], .int .i64 c1_0] w (RetV w (.bool ((leaseOk (⟨c0_0, c0_1, c0_2⟩ : DLease) && (timeOk c1_0 && freeL (⟨c0_0, c0_1, c0_2⟩ : DLease) c1_0))))) := by
 have rsize_setRow := @size_setRow
 have rcell_setRow_lt := @cell_setRow_lt
 have rcell_setRow_gt := @cell_setRow_gt
 have rfrozen_setRow_lt := @frozen_setRow_lt
 have rfrozen_setRow_gt := @frozen_setRow_gt
 go_enter Tryz.func100, Tryz.ntmps100
 go_wp2_with (first | (go_at_call 93; refine (sLeaseOk_c _ _ _ _  ).mono ?_; rintro e wa ⟨rfl, hxa⟩; have hza := hxa.size; (repeat (first | simp only [World.size_alloc] at hza | simp only [World.size_setCell] at hza | simp only [size_setRow] at hza)); (try have hya_b_0 : wb.heap.size < wa.heap.size := oM); (try have hya_b_1 : wb.heap.size + 1 < wa.heap.size := oM); (try have hya_b_2 : wb.heap.size + 1 + 1 < wa.heap.size := oM); have Ka0 : Blk wa (w.heap.size) 60 _ := Blk.ext (by exact blkT) hxa; (try simp only [List.setIfInBounds_toArray, List.set_cons_zero, List.set_cons_succ] at Ka0); have CKa0 := Ka0.cell; have FKa0 := Ka0.frozen; have hya__0 : w.heap.size < wa.heap.size := oM; (try (have Ka_b0 : Blk wa (wb.heap.size) _ _ := Blk.ext (by exact blkT) hxa; (try simp only [List.setIfInBounds_toArray, List.set_cons_zero, List.set_cons_succ] at Ka_b0); have CKa_b0 := Ka_b0.cell; have FKa_b0 := Ka_b0.frozen)); (try (have Ka_b1 : Blk wa (wb.heap.size + 1) _ _ := Blk.ext (by exact blkT) hxa; (try simp only [List.setIfInBounds_toArray, List.set_cons_zero, List.set_cons_succ] at Ka_b1); have CKa_b1 := Ka_b1.cell; have FKa_b1 := Ka_b1.frozen)); (try (have Ka_b2 : Blk wa (wb.heap.size + 1 + 1) _ _ := Blk.ext (by exact blkT) hxa; (try simp only [List.setIfInBounds_toArray, List.set_cons_zero, List.set_cons_succ] at Ka_b2); have CKa_b2 := Ka_b2.cell; have FKa_b2 := Ka_b2.frozen))) | (go_at_call 66; refine (l16Time_cP _ _  ).mono ?_; rintro e wb ⟨rfl, rfl⟩))
 all_goals
  go_ret
  refine ⟨by first | rfl | (simp [freeL, *]; done) | (simp [freeL, *]; omega) | (simp_all [freeL, bq, bn]; done) | (simp_all [freeL, bq, bn]; omega), ?_⟩
  exact xT
theorem sStateOk_k {w : World} {v : Value} {s : DState} (h : RdState w v s) : Calls Tryz.prog 82 #[v] w (RetV w (.bool (stateOk s))) := by
 obtain ⟨t2, t3, rfl, h2, h3⟩ := h
 exact sStateOk_c w _ _ _ _ _ _ _ _ _ h2 h3
theorem sNextIn_k {w : World} {v : Value} {s : DState} (h : RdState w v s) (ei et ec es ok oa ob oc od : Int) : Calls Tryz.prog 96 #[v, .agg #[.int .i64 ei, .int .i64 et, .int .i64 ec, .int .i64 es, .int .i64 ok, .int .i64 oa, .int .i64 ob, .int .i64 oc, .int .i64 od]] w (RetV w (.bool (stateOk s && nextIn s ⟨ei, et, ec, es, ⟨ok, oa, ob, oc, od⟩⟩))) := by
 have HS := Lib.hid h
 obtain ⟨a2, n2, k2, a3, n3, k3, rfl⟩ := h.shape
 clear h
 obtain ⟨W1, hW1⟩ : ∃ W1, W1 = (w.alloc (.cells #[.int .i64 s.Index, .int .i64 s.Time, .slice a2 n2 k2, .slice a3 n3 k3, .int .i64 s.Lease.Holder, .int .i64 s.Lease.Epoch, .int .i64 s.Lease.Until] 62)).alloc (.cells #[.int .i64 ei, .int .i64 et, .int .i64 ec, .int .i64 es, .int .i64 ok, .int .i64 oa, .int .i64 ob, .int .i64 oc, .int .i64 od] 95) := ⟨_, rfl⟩
 have E1 : Ext w W1 := by rw [hW1]; exact ((Ext.refl _).alloc _).alloc _
 have KS1 : Blk W1 w.heap.size 62 #[.int .i64 s.Index, .int .i64 s.Time, .slice a2 n2 k2, .slice a3 n3 k3, .int .i64 s.Lease.Holder, .int .i64 s.Lease.Epoch, .int .i64 s.Lease.Until] := by rw [hW1]; exact (Blk.new _ _ _).alloc _
 have KE1 : Blk W1 (w.heap.size + 1) 95 #[.int .i64 ei, .int .i64 et, .int .i64 ec, .int .i64 es, .int .i64 ok, .int .i64 oa, .int .i64 ob, .int .i64 oc, .int .i64 od] := by rw [hW1]; exact Blk.new2 _ _ _ _
 have HW1 := Lib.hid hW1
 clear hW1
 go_enter Tryz.func96, Tryz.ntmps96
 go_wp2_with fail
 rw [← HW1.out]
 have CS1 := KS1.cell; have LS1 := KS1.lt; have CE1 := KE1.cell; have LE1 := KE1.lt
 go_wp2_with fail
 refine (sStateOk_k (HS.out.ext E1)).mono ?_
 rintro e9 w2 ⟨rfl, hx2⟩
 have E2 : Ext w w2 := E1.trans hx2
 have KS2 := KS1.ext hx2; have KE2 := KE1.ext hx2
 clear CS1 LS1 CE1 LE1
 have CS2 := KS2.cell; have LS2 := KS2.lt; have CE2 := KE2.cell; have LE2 := KE2.lt
 cases hso : stateOk s
 ·
  have e1 : (stateOk s && nextIn s ⟨ei, et, ec, es, ⟨ok, oa, ob, oc, od⟩⟩) = false := by simp [hso]
  have HE1 := Lib.hid e1
  clear e1
  go_wp2_with fail
  go_ret
  exact ⟨by first | (rw [HE1.out]; rfl) | (rw [HE1.out]; simp; done) | (rw [HE1.out]; simp; omega), E2⟩
 have HO := Lib.hid hso
 obtain ⟨hs0, hs1, _⟩ := stateOk_parts hso
 clear hso
 go_wp2_with fail
 refine (sEntryOk_e _ ei et ec es ok oa ob oc od).mono ?_
 rintro e9 w3 ⟨rfl, hx3⟩
 have E3 : Ext w w3 := E2.trans hx3
 have KS3 := KS2.ext hx3; have KE3 := KE2.ext hx3
 clear CS2 LS2 CE2 LE2
 have CS3 := KS3.cell; have LS3 := KS3.lt; have CE3 := KE3.cell; have LE3 := KE3.lt
 cases hen : entryOk ⟨ei, et, ec, es, ⟨ok, oa, ob, oc, od⟩⟩
 ·
  have e1 : (stateOk s && nextIn s ⟨ei, et, ec, es, ⟨ok, oa, ob, oc, od⟩⟩) = false := by simp [nextIn, hen]
  have HE1 := Lib.hid e1
  clear e1
  go_wp2_with fail
  go_ret
  exact ⟨by first | (rw [HE1.out]; rfl) | (rw [HE1.out]; simp; done) | (rw [HE1.out]; simp; omega), E3⟩
 have HN := Lib.hid hen
 clear hen
 obtain ⟨I, hI⟩ : ∃ I, I = s.Index := ⟨_, rfl⟩
 obtain ⟨T, hT⟩ : ∃ T, T = s.Time := ⟨_, rfl⟩
 rw [← hI] at hs0 hs1
 rw [← hI, ← hT] at CS3 ⊢
 have HI := Lib.hid hI; have HT := Lib.hid hT
 clear hI hT
 by_cases hi : ei = I + 1
 rotate_left
 ·
  have e1 : (stateOk s && nextIn s ⟨ei, et, ec, es, ⟨ok, oa, ob, oc, od⟩⟩) = false := by rw [nextIn]; simp only [HO.out, HN.out, ← HI.out]; simp [hi]
  have HE1 := Lib.hid e1
  clear e1
  go_wp2_with fail
  go_ret
  exact ⟨by first | (rw [HE1.out]; rfl) | (rw [HE1.out]; simp; done) | (rw [HE1.out]; simp; omega), E3⟩
 have HII := Lib.hid hi
 subst hi
 by_cases ht : T ≤ et
 rotate_left
 ·
  have e1 : (stateOk s && nextIn s ⟨I + 1, et, ec, es, ⟨ok, oa, ob, oc, od⟩⟩) = false := by rw [nextIn]; simp only [HO.out, HN.out, ← HI.out, ← HT.out]; simp [ht]
  have HE1 := Lib.hid e1
  clear e1
  go_wp2_with fail
  go_ret
  exact ⟨by first | (rw [HE1.out]; rfl) | (rw [HE1.out]; simp; done) | (rw [HE1.out]; simp; omega), E3⟩
 have e1 : (stateOk s && nextIn s ⟨I + 1, et, ec, es, ⟨ok, oa, ob, oc, od⟩⟩) = true := by rw [nextIn]; simp only [HO.out, HN.out, ← HI.out, ← HT.out]; simp [ht]
 have HE1 := Lib.hid e1
 clear e1
 go_wp2_with fail
 go_ret
 exact ⟨by first | (rw [HE1.out]; rfl) | (rw [HE1.out]; simp; done) | (rw [HE1.out]; simp; omega), E3⟩
end Go.Proofs.YtfhaooaajpopmaaGreat
namespace Go.G8
open Go.RowKit
theorem fires_kind {s : DState} {e : DEntry} (h : e.Op.Kind ≠ 4) : fires s e = false := by simp [fires, h]
theorem fires_none {s : DState} {e : DEntry} (h : jhas s.Jobs e.Op.A = false) : fires s e = false := by
 unfold jhas at h
 cases ha : at_ DJob.Id e.Op.A s.Jobs with
 | none => simp [fires, ha]
 | some j => rw [ha] at h; cases h
theorem fires_some {s : DState} {e : DEntry} (hk : e.Op.Kind = 4) (h : jhas s.Jobs e.Op.A = true) :
  fires s e = (decide ((jget s.Jobs e.Op.A).Fired = 0) && (decide ((jget s.Jobs e.Op.A).Due ≤ e.Time) && holdsAt s.Lease e.Client e.Op.B e.Time)) := by
 unfold jhas at h
 unfold jget
 cases ha : at_ DJob.Id e.Op.A s.Jobs with
 | none => rw [ha] at h; cases h
 | some j => simp [fires, ha, hk]
end Go.G8
namespace Go.Proofs.YtfhaooaajpopmaaGreat
open Go.RowKit Go.G8
theorem sFiresIn_k {w : World} {v : Value} {s : DState} (h : RdState w v s) (ei et ec es ok oa ob oc od : Int) : Calls Tryz.prog 98 #[v, .agg #[.int .i64 ei, .int .i64 et, .int .i64 ec, .int .i64 es, .int .i64 ok, .int .i64 oa, .int .i64 ob, .int .i64 oc, .int .i64 od]] w (RetV w (.bool (stateOk s && (nextIn s ⟨ei, et, ec, es, ⟨ok, oa, ob, oc, od⟩⟩ && fires s ⟨ei, et, ec, es, ⟨ok, oa, ob, oc, od⟩⟩)))) := by
 have HS := Lib.hid h
 obtain ⟨t2, t3, rfl, h2, h3⟩ := h
 obtain ⟨a2, n2, k2, rfl⟩ := h2.shape
 obtain ⟨a3, n3, k3, rfl⟩ := h3.shape
 have H3 := Lib.hid h3
 clear h2 h3
 obtain ⟨W1, hW1⟩ : ∃ W1, W1 = (w.alloc (.cells #[.int .i64 s.Index, .int .i64 s.Time, .slice a2 n2 k2, .slice a3 n3 k3, .int .i64 s.Lease.Holder, .int .i64 s.Lease.Epoch, .int .i64 s.Lease.Until] 62)).alloc (.cells #[.int .i64 ei, .int .i64 et, .int .i64 ec, .int .i64 es, .int .i64 ok, .int .i64 oa, .int .i64 ob, .int .i64 oc, .int .i64 od] 95) := ⟨_, rfl⟩
 have E1 : Ext w W1 := by rw [hW1]; exact ((Ext.refl _).alloc _).alloc _
 have KS1 : Blk W1 w.heap.size 62 #[.int .i64 s.Index, .int .i64 s.Time, .slice a2 n2 k2, .slice a3 n3 k3, .int .i64 s.Lease.Holder, .int .i64 s.Lease.Epoch, .int .i64 s.Lease.Until] := by rw [hW1]; exact (Blk.new _ _ _).alloc _
 have KE1 : Blk W1 (w.heap.size + 1) 95 #[.int .i64 ei, .int .i64 et, .int .i64 ec, .int .i64 es, .int .i64 ok, .int .i64 oa, .int .i64 ob, .int .i64 oc, .int .i64 od] := by rw [hW1]; exact Blk.new2 _ _ _ _
 have HW1 := Lib.hid hW1
 clear hW1
 go_enter Tryz.func98, Tryz.ntmps98
 go_wp2_with fail
 rw [← HW1.out]
 have CS1 := KS1.cell; have LS1 := KS1.lt; have CE1 := KE1.cell; have LE1 := KE1.lt
 go_wp2_with fail
 refine (sNextIn_k (HS.out.ext E1) ei et ec es ok oa ob oc od).mono ?_
 rintro e9 w2 ⟨rfl, hx2⟩
 have E2 : Ext w w2 := E1.trans hx2
 have KS2 := KS1.ext hx2; have KE2 := KE1.ext hx2
 clear CS1 LS1 CE1 LE1
 have CS2 := KS2.cell; have LS2 := KS2.lt; have CE2 := KE2.cell; have LE2 := KE2.lt
 cases hn : (stateOk s && nextIn s ⟨ei, et, ec, es, ⟨ok, oa, ob, oc, od⟩⟩)
 ·
  have hn2 : (stateOk s && (nextIn s ⟨ei, et, ec, es, ⟨ok, oa, ob, oc, od⟩⟩ && fires s ⟨ei, et, ec, es, ⟨ok, oa, ob, oc, od⟩⟩)) = false := by rw [← Bool.and_assoc, hn]; rfl
  have HN2 := Lib.hid hn2
  clear hn2
  have e1 : (stateOk s && (nextIn s ⟨ei, et, ec, es, ⟨ok, oa, ob, oc, od⟩⟩ && fires s ⟨ei, et, ec, es, ⟨ok, oa, ob, oc, od⟩⟩)) = false := by exact HN2.out
  have HE1 := Lib.hid e1
  clear e1
  go_wp2_with fail
  go_ret
  exact ⟨by first | (rw [HE1.out]; rfl) | (rw [HE1.out]; simp; done) | (rw [HE1.out]; simp; omega), xT⟩
 have hn3 : stateOk s = true ∧ nextIn s ⟨ei, et, ec, es, ⟨ok, oa, ob, oc, od⟩⟩ = true := by simpa [Bool.and_eq_true] using hn
 have HN := Lib.hid hn3
 have hp := (stateOk_parts hn3.1).2.2.2.2.1
 clear hn hn3
 by_cases hk : ok = 4
 rotate_left
 ·
  have e1 : (stateOk s && (nextIn s ⟨ei, et, ec, es, ⟨ok, oa, ob, oc, od⟩⟩ && fires s ⟨ei, et, ec, es, ⟨ok, oa, ob, oc, od⟩⟩)) = false := by rw [fires_kind (by exact hk)]; simp
  have HE1 := Lib.hid e1
  clear e1
  go_wp2_with fail
  go_ret
  exact ⟨by first | (rw [HE1.out]; rfl) | (rw [HE1.out]; simp; done) | (rw [HE1.out]; simp; omega), xT⟩
 subst hk
 go_wp2_with fail
 refine (sJobAt_c _ _ s.Jobs oa (H3.out.ext E2) hp).mono ?_
 rintro e9 w3 ⟨rfl, hx3⟩
 have E3 : Ext w w3 := E2.trans hx3
 have KS3 := KS2.ext hx3; have KE3 := KE2.ext hx3
 clear CS2 LS2 CE2 LE2
 have CS3 := KS3.cell; have LS3 := KS3.lt; have CE3 := KE3.cell; have LE3 := KE3.lt
 cases hj : jhas s.Jobs oa
 ·
  have e1 : (stateOk s && (nextIn s ⟨ei, et, ec, es, ⟨4, oa, ob, oc, od⟩⟩ && fires s ⟨ei, et, ec, es, ⟨4, oa, ob, oc, od⟩⟩)) = false := by rw [fires_none (by exact hj)]; simp
  have HE1 := Lib.hid e1
  clear e1
  go_wp2_with fail
  go_ret
  exact ⟨by first | (rw [HE1.out]; rfl) | (rw [HE1.out]; simp; done) | (rw [HE1.out]; simp; omega), xT⟩
 have HF := Lib.hid (fires_some (s := s) (e := ⟨ei, et, ec, es, ⟨4, oa, ob, oc, od⟩⟩) rfl hj)
 simp only [] at HF
 obtain ⟨J, hJ⟩ : ∃ J, J = jget s.Jobs oa := ⟨_, rfl⟩
 rw [← hJ] at HF ⊢
 clear hJ
 by_cases hf : J.Fired = 0
 rotate_left
 ·
  have e1 : (stateOk s && (nextIn s ⟨ei, et, ec, es, ⟨4, oa, ob, oc, od⟩⟩ && fires s ⟨ei, et, ec, es, ⟨4, oa, ob, oc, od⟩⟩)) = false := by rw [HF.out]; simp [hf]
  have HE1 := Lib.hid e1
  clear e1
  go_wp2_with fail
  go_ret
  exact ⟨by first | (rw [HE1.out]; rfl) | (rw [HE1.out]; simp; done) | (rw [HE1.out]; simp; omega), xT⟩
 by_cases hd : J.Due ≤ et
 rotate_left
 ·
  have e1 : (stateOk s && (nextIn s ⟨ei, et, ec, es, ⟨4, oa, ob, oc, od⟩⟩ && fires s ⟨ei, et, ec, es, ⟨4, oa, ob, oc, od⟩⟩)) = false := by rw [HF.out]; simp [hd]
  have HE1 := Lib.hid e1
  clear e1
  go_wp2_with fail
  go_ret
  exact ⟨by first | (rw [HE1.out]; rfl) | (rw [HE1.out]; simp; done) | (rw [HE1.out]; simp; omega), xT⟩
 have e2 : (stateOk s && (nextIn s ⟨ei, et, ec, es, ⟨4, oa, ob, oc, od⟩⟩ && fires s ⟨ei, et, ec, es, ⟨4, oa, ob, oc, od⟩⟩)) = holdsAt s.Lease ec ob et := by rw [HF.out, HN.out.1, HN.out.2]; simp [hf, hd]
 have HE2 := Lib.hid e2
 clear e2
 go_wp2_with fail
 refine (sHoldsAt_e _ _ _ _ ec ob et).mono ?_
 rintro e9 w4 ⟨rfl, hx4⟩
 have E4 : Ext w w4 := E3.trans (Ext.trans xT hx4)
 go_wp2_with fail
 go_ret
 exact ⟨by (rw [HE2.out]; rfl), E4⟩
theorem l1Max_e (w : World) (x y : Int) : Calls Tryz.prog 80 #[.int .i64 x, .int .i64 y] w fun e w' => e = .returned (.int .i64 (max x y)) ∧ w = w' := by
 by_cases h : y < x
 ·
  go_enter Tryz.func80, Tryz.ntmps80
  go_wp2
  go_ret
  exact ⟨by rw [show max x y = x by omega]; rfl, rfl⟩
 go_enter Tryz.func80, Tryz.ntmps80
 go_wp2
 go_ret
 exact ⟨by rw [show max x y = y by omega]; rfl, rfl⟩
theorem sGranted_e (w : World) (lh le lu who time long : Int) :
  Calls Tryz.prog 91 #[.agg #[.int .i64 lh, .int .i64 le, .int .i64 lu], .int .i64 who, .int .i64 time, .int .i64 long] w (RetV w (.tuple #[.agg #[.int .i64 (grantR ⟨lh, le, lu⟩ who time long).Holder, .int .i64 (grantR ⟨lh, le, lu⟩ who time long).Epoch, .int .i64 (grantR ⟨lh, le, lu⟩ who time long).Until], .bool (grantOk ⟨lh, le, lu⟩ who time long)])) := by
 have E1 : Ext w ((w.alloc (.cells #[.int .i64 lh, .int .i64 le, .int .i64 lu] 60)).alloc (.cells #[.int .i64 0, .int .i64 0, .int .i64 0] 60)) := ((Ext.refl _).alloc _).alloc _
 have KD1 : Blk ((w.alloc (.cells #[.int .i64 lh, .int .i64 le, .int .i64 lu] 60)).alloc (.cells #[.int .i64 0, .int .i64 0, .int .i64 0] 60)) w.heap.size 60 #[.int .i64 lh, .int .i64 le, .int .i64 lu] := (Blk.new _ _ _).alloc _
 have KR1 : Blk ((w.alloc (.cells #[.int .i64 lh, .int .i64 le, .int .i64 lu] 60)).alloc (.cells #[.int .i64 0, .int .i64 0, .int .i64 0] 60)) (w.heap.size + 1) 60 #[.int .i64 0, .int .i64 0, .int .i64 0] := Blk.new2 _ _ _ _
 go_enter Tryz.func91, Tryz.ntmps91
 go_wp2_with fail
 refine (sLeaseOk_c _ lh le lu).mono ?_
 rintro e9 w2 ⟨rfl, hx2⟩
 have E2 : Ext w w2 := E1.trans hx2
 have KD2 := KD1.ext hx2; have KR2 := KR1.ext hx2
 have CD2 := KD2.cell; have FD2 := KD2.frozen; have LD2 := KD2.lt; have CR2 := KR2.cell; have FR2 := KR2.frozen; have LR2 := KR2.lt
 clear KD1 KR1 E1
 cases hl : leaseOk ⟨lh, le, lu⟩
 ·
  have HL := Lib.hid hl
  have e1 : grantOk ⟨lh, le, lu⟩ who time long = false := by simp [grantOk, hl]
  have e2 : grantR ⟨lh, le, lu⟩ who time long = ⟨0, 0, 0⟩ := by unfold grantR; simp only [HL.out, e1]; rfl
  have HE1 := Lib.hid e1; have HE2 := Lib.hid e2
  clear e1 e2
  go_wp2_with fail
  refine bodyPost_ret (by simp [results, Tryz.results91, go_sem, CR2, FR2, LR2]; try rfl) rfl ?_
  refine ⟨by (rw [HE1.out, HE2.out]; try rfl), ?_⟩
  exact xT
 have HL := Lib.hid hl
 have hb := leaseOk_of hl
 simp only [] at hb
 clear hl
 go_wp2_with fail
 refine (l16Who_cP _ who).mono ?_
 rintro e9 w2' ⟨rfl, rfl⟩
 cases hw : schedOk who
 ·
  have e1 : grantOk ⟨lh, le, lu⟩ who time long = false := by simp [grantOk, hw]
  have e2 : grantR ⟨lh, le, lu⟩ who time long = ⟨lh, le, lu⟩ := by unfold grantR; simp only [HL.out, e1]; rfl
  have HE1 := Lib.hid e1; have HE2 := Lib.hid e2
  clear e1 e2
  go_wp2_with fail
  refine bodyPost_ret (by simp [results, Tryz.results91, go_sem, CR2, FR2, LR2]; try rfl) rfl ?_
  refine ⟨by (rw [HE1.out, HE2.out]; try rfl), ?_⟩
  exact xT
 go_wp2_with fail
 refine (l16Time_cP _ time).mono ?_
 rintro e9 w2' ⟨rfl, rfl⟩
 cases ht : timeOk time
 ·
  have e1 : grantOk ⟨lh, le, lu⟩ who time long = false := by simp [grantOk, ht]
  have e2 : grantR ⟨lh, le, lu⟩ who time long = ⟨lh, le, lu⟩ := by unfold grantR; simp only [HL.out, e1]; rfl
  have HE1 := Lib.hid e1; have HE2 := Lib.hid e2
  clear e1 e2
  go_wp2_with fail
  refine bodyPost_ret (by simp [results, Tryz.results91, go_sem, CR2, FR2, LR2]; try rfl) rfl ?_
  refine ⟨by (rw [HE1.out, HE2.out]; try rfl), ?_⟩
  exact xT
 go_wp2_with fail
 refine (l1In_c _ long 1 1000).mono ?_
 rintro e9 w2' ⟨rfl, rfl⟩
 cases hi : inb long 1 1000
 ·
  have e1 : grantOk ⟨lh, le, lu⟩ who time long = false := by simp [grantOk, hi]
  have e2 : grantR ⟨lh, le, lu⟩ who time long = ⟨lh, le, lu⟩ := by unfold grantR; simp only [HL.out, e1]; rfl
  have HE1 := Lib.hid e1; have HE2 := Lib.hid e2
  clear e1 e2
  go_wp2_with fail
  refine bodyPost_ret (by simp [results, Tryz.results91, go_sem, CR2, FR2, LR2]; try rfl) rfl ?_
  refine ⟨by (rw [HE1.out, HE2.out]; try rfl), ?_⟩
  exact xT
 have ht9 := inb_true.1 ht
 have hi9 := inb_true.1 hi
 have HL9 : grantOk ⟨lh, le, lu⟩ who time long = (decide (lh = who) || (freeL ⟨lh, le, lu⟩ time && decide (le < 1000))) := by simp [grantOk, HL.out, hw, ht, hi]
 have HHL := Lib.hid HL9
 clear HL9 hw hi
 obtain ⟨x1, x2⟩ := ht9
 obtain ⟨x3, x4⟩ := hi9
 obtain ⟨b1, b2, b3, b4, b5, b6⟩ := hb
 by_cases hh : lh = who
 ·
  have HW9 : lh = who := hh
  have hr : grantOk ⟨lh, le, lu⟩ who time long = true := by rw [HHL.out]; simp [hh]
  have hv : grantR ⟨lh, le, lu⟩ who time long = ⟨lh, le, max lu (time + long)⟩ := by unfold grantR; rw [if_pos HL.out, if_pos hr]; unfold grantL; rw [if_pos (by exact hh)]
  have HE1 := Lib.hid hr; have HE2 := Lib.hid hv
  subst hh
  clear hr hv
  go_wp2_with fail
  refine (l1Max_e _ lu (time + long)).mono ?_
  rintro e9 w2' ⟨rfl, rfl⟩
  go_wp2_with fail
  refine bodyPost_ret (by simp [results, Tryz.results91, go_sem, CR2, FR2, LR2]; try rfl) rfl ?_
  refine ⟨by (rw [HE1.out, HE2.out]; try rfl), ?_⟩
  exact xT
 have hh1 : ¬ (lh = who) := hh
 go_wp2_with fail
 refine (sFreeAt_e _ lh le lu time).mono ?_
 rintro e9 w3 ⟨rfl, hx3⟩
 have E3 : Ext w w3 := E2.trans hx3
 have KD3 := KD2.ext hx3; have KR3 := KR2.ext hx3
 clear CD2 FD2 LD2 CR2 FR2 LR2
 have CD3 := KD3.cell; have FD3 := KD3.frozen; have LD3 := KD3.lt; have CR3 := KR3.cell; have FR3 := KR3.frozen; have LR3 := KR3.lt
 rw [HL.out, ht, Bool.true_and, Bool.true_and]
 cases hfr : freeL ⟨lh, le, lu⟩ time
 ·
  have e1 : grantOk ⟨lh, le, lu⟩ who time long = false := by rw [HHL.out, hfr]; simp [hh]
  have e2 : grantR ⟨lh, le, lu⟩ who time long = ⟨lh, le, lu⟩ := by unfold grantR; simp only [HL.out, e1]; rfl
  have HE1 := Lib.hid e1; have HE2 := Lib.hid e2
  clear e1 e2
  go_wp2_with fail
  refine bodyPost_ret (by simp [results, Tryz.results91, go_sem, CR3, FR3, LR3]; try rfl) rfl ?_
  refine ⟨by (rw [HE1.out, HE2.out]; try rfl), ?_⟩
  exact xT
 by_cases he : (1000 : Int) ≤ le
 ·
  have e1 : grantOk ⟨lh, le, lu⟩ who time long = false := by rw [HHL.out]; simp [hh]; omega
  have e2 : grantR ⟨lh, le, lu⟩ who time long = ⟨lh, le, lu⟩ := by unfold grantR; simp only [HL.out, e1]; rfl
  have HE1 := Lib.hid e1; have HE2 := Lib.hid e2
  clear e1 e2
  go_wp2_with fail
  refine bodyPost_ret (by simp [results, Tryz.results91, go_sem, CR3, FR3, LR3]; try rfl) rfl ?_
  refine ⟨by (rw [HE1.out, HE2.out]; try rfl), ?_⟩
  exact xT
 have hr : grantOk ⟨lh, le, lu⟩ who time long = true := by rw [HHL.out, hfr]; simp; omega
 have hv : grantR ⟨lh, le, lu⟩ who time long = ⟨who, le + 1, time + long⟩ := by unfold grantR; rw [if_pos HL.out, if_pos hr]; unfold grantL; rw [if_neg (by exact hh)]
 have HE1 := Lib.hid hr; have HE2 := Lib.hid hv
 clear hr hv
 go_wp2_with fail
 refine bodyPost_ret (by simp [results, Tryz.results91, go_sem, CR3, FR3, LR3]; try rfl) rfl ?_
 refine ⟨by (rw [HE1.out, HE2.out]; try rfl), ?_⟩
 exact xT
end Go.Proofs.YtfhaooaajpopmaaGreat
namespace Go.G8
noncomputable def effAt (s : DState) (e : DEntry) : Int := if (stateOk s && nextIn s e) = true then effS s e else -1
end Go.G8
namespace Go.Proofs.YtfhaooaajpopmaaGreat
open Go.RowKit Go.G8
theorem l17Job_k (w : World) (ok oa ob oc od : Int) : Calls Tryz.prog 88 #[.agg #[.int .i64 ok, .int .i64 oa, .int .i64 ob, .int .i64 oc, .int .i64 od]] w (RetV w (.agg #[.int .i64 oa, .int .i64 ob, .int .i64 oc, .int .i64 od, .int .i64 0])) := by
 go_enter Tryz.func88, Tryz.ntmps88
 go_wp2_with fail
 refine bodyPost_ret (by simp [results, Tryz.results88, go_sem]; try rfl) rfl ?_
 exact ⟨rfl, xT⟩
theorem sEffectOf_k {w : World} {v : Value} {s : DState} (h : RdState w v s) (ei et ec es ok oa ob oc od : Int) : Calls Tryz.prog 84 #[v, .agg #[.int .i64 ei, .int .i64 et, .int .i64 ec, .int .i64 es, .int .i64 ok, .int .i64 oa, .int .i64 ob, .int .i64 oc, .int .i64 od]] w (RetV w (.int .i64 (effAt s ⟨ei, et, ec, es, ⟨ok, oa, ob, oc, od⟩⟩))) := by
 have HS := Lib.hid h
 obtain ⟨t2, t3, rfl, h2, h3⟩ := h
 obtain ⟨a2, n2, k2, rfl⟩ := h2.shape
 obtain ⟨a3, n3, k3, rfl⟩ := h3.shape
 have H2 := Lib.hid h2; have H3 := Lib.hid h3
 clear h2 h3
 obtain ⟨W1, hW1⟩ : ∃ W1, W1 = (w.alloc (.cells #[.int .i64 s.Index, .int .i64 s.Time, .slice a2 n2 k2, .slice a3 n3 k3, .int .i64 s.Lease.Holder, .int .i64 s.Lease.Epoch, .int .i64 s.Lease.Until] 62)).alloc (.cells #[.int .i64 ei, .int .i64 et, .int .i64 ec, .int .i64 es, .int .i64 ok, .int .i64 oa, .int .i64 ob, .int .i64 oc, .int .i64 od] 95) := ⟨_, rfl⟩
 have E1 : Ext w W1 := by rw [hW1]; exact ((Ext.refl _).alloc _).alloc _
 have KS1 : Blk W1 w.heap.size 62 #[.int .i64 s.Index, .int .i64 s.Time, .slice a2 n2 k2, .slice a3 n3 k3, .int .i64 s.Lease.Holder, .int .i64 s.Lease.Epoch, .int .i64 s.Lease.Until] := by rw [hW1]; exact (Blk.new _ _ _).alloc _
 have KE1 : Blk W1 (w.heap.size + 1) 95 #[.int .i64 ei, .int .i64 et, .int .i64 ec, .int .i64 es, .int .i64 ok, .int .i64 oa, .int .i64 ob, .int .i64 oc, .int .i64 od] := by rw [hW1]; exact Blk.new2 _ _ _ _
 have HW1 := Lib.hid hW1
 clear hW1
 go_enter Tryz.func84, Tryz.ntmps84
 go_wp2_with fail
 rw [← HW1.out]
 have CS1 := KS1.cell; have LS1 := KS1.lt; have CE1 := KE1.cell; have LE1 := KE1.lt
 go_wp2_with fail
 refine (sNextIn_k (HS.out.ext E1) ei et ec es ok oa ob oc od).mono ?_
 rintro e9 w2 ⟨rfl, hx2⟩
 have E2 : Ext w w2 := E1.trans hx2
 have KS2 := KS1.ext hx2; have KE2 := KE1.ext hx2
 clear CS1 LS1 CE1 LE1
 have CS2 := KS2.cell; have LS2 := KS2.lt; have CE2 := KE2.cell; have LE2 := KE2.lt
 cases hn : (stateOk s && nextIn s ⟨ei, et, ec, es, ⟨ok, oa, ob, oc, od⟩⟩)
 ·
  have ht : (effAt s ⟨ei, et, ec, es, ⟨ok, oa, ob, oc, od⟩⟩) = -1 := by unfold effAt; rw [hn]; rfl
  have HT := Lib.hid ht
  clear ht
  go_wp2_with fail
  go_ret
  exact ⟨by (rw [HT.out]; try rfl), E2⟩
 have ht : (effAt s ⟨ei, et, ec, es, ⟨ok, oa, ob, oc, od⟩⟩) = effS s ⟨ei, et, ec, es, ⟨ok, oa, ob, oc, od⟩⟩ := by unfold effAt; rw [hn]; rfl
 have HT := Lib.hid ht
 have hn3 : stateOk s = true ∧ nextIn s ⟨ei, et, ec, es, ⟨ok, oa, ob, oc, od⟩⟩ = true := by simpa [Bool.and_eq_true] using hn
 have HN := Lib.hid hn3
 have hpp := (stateOk_parts hn3.1).2.2.2.1
 have hop := opOk_kind (entryOk_parts (nextIn_parts hn3.2).1).2.2.2
 have hop : ok = 1 ∨ ok = 2 ∨ ok = 3 ∨ ok = 4 ∨ ok = 5 := hop
 clear hn hn3 ht
 rcases hop with hk | hk | hk | hk | hk
 all_goals subst hk
 ·
  have e1 : effS s ⟨ei, et, ec, es, ⟨1, oa, ob, oc, od⟩⟩ = 1 := by simp [effS, doesS]
  have HE1 := Lib.hid e1
  clear e1
  go_wp2_with fail
  go_ret
  exact ⟨by (rw [HT.out, HE1.out]; try rfl), xT⟩
 ·
  go_wp2_with fail
  refine (sValueAt_c _ _ s.Pairs oa (H2.out.ext E2) hpp).mono ?_
  rintro e9 w3 ⟨rfl, hx3⟩
  have E3 : Ext w w3 := E2.trans hx3
  cases hv : vhas s.Pairs oa
  ·
   have e1 : effS s ⟨ei, et, ec, es, ⟨2, oa, ob, oc, od⟩⟩ = 0 := by (have hv2 : (at_ DPair.Key oa s.Pairs).isSome = false := hv); simp [effS, doesS, hv2]
   have HE1 := Lib.hid e1
   clear e1
   go_wp2_with fail
   go_ret
   exact ⟨by (rw [HT.out, HE1.out]; try rfl), xT⟩
  have e1 : effS s ⟨ei, et, ec, es, ⟨2, oa, ob, oc, od⟩⟩ = 2 := by (have hv2 : (at_ DPair.Key oa s.Pairs).isSome = true := hv); simp [effS, doesS, hv2]
  have HE1 := Lib.hid e1
  clear e1
  go_wp2_with fail
  go_ret
  exact ⟨by (rw [HT.out, HE1.out]; try rfl), xT⟩
 ·
  go_wp2_with fail
  have ya3 : ∀ w', Ext w2 w' → w'.cell? ⟨_, 3, none⟩ = some (.slice a3 n3 k3) := fun w' hw => (KS2.ext hw).cell 3
  have yb4 : ∀ w', Ext w2 w' → w'.cell? ⟨_, 4, none⟩ = some (.int .i64 3) := fun w' hw => (KE2.ext hw).cell 4
  have yb5 : ∀ w', Ext w2 w' → w'.cell? ⟨_, 5, none⟩ = some (.int .i64 oa) := fun w' hw => (KE2.ext hw).cell 5
  have yb6 : ∀ w', Ext w2 w' → w'.cell? ⟨_, 6, none⟩ = some (.int .i64 ob) := fun w' hw => (KE2.ext hw).cell 6
  have yb7 : ∀ w', Ext w2 w' → w'.cell? ⟨_, 7, none⟩ = some (.int .i64 oc) := fun w' hw => (KE2.ext hw).cell 7
  have yb8 : ∀ w', Ext w2 w' → w'.cell? ⟨_, 8, none⟩ = some (.int .i64 od) := fun w' hw => (KE2.ext hw).cell 8
  clear CS2 LS2 CE2 LE2
  go_region_held3 (fun w' => Ext w2 w') (first | exact Ext.drew (Ext.refl _) | exact Ext.trans (by assumption) hxa | exact Ext.trans (by assumption) hxb) (first | (go_at_call 88; refine (l17Job_k _ 3 oa ob oc od).mono ?_; rintro e9 wa ⟨rfl, hxa⟩) | (go_at_call 87; refine (sJobAdded_c _ _ s.Jobs oa ob oc od 0 (H3.out.ext (Ext.trans E2 (by assumption)))).mono ?_; rintro e9 wb ⟨_, rfl, hxb, u9, rfl, gu⟩; obtain ⟨ua, un, uc, rfl⟩ := gu.shape))
  all_goals
   have XB : Ext w2 wb := by assumption
   have E3 : Ext w wb := E2.trans XB
   clear ya3 yb4 yb5 yb6 yb7 yb8 hxa hxb
   cases hf : addOk s.Jobs ⟨oa, ob, oc, od, 0⟩
   ·
    have e1 : effS s ⟨ei, et, ec, es, ⟨3, oa, ob, oc, od⟩⟩ = 0 := by simp [effS, doesS, hf]
    have HE1 := Lib.hid e1
    clear e1
    go_wp2_with fail
    go_ret
    exact ⟨by (rw [HT.out, HE1.out]; try rfl), xT⟩
   have e1 : effS s ⟨ei, et, ec, es, ⟨3, oa, ob, oc, od⟩⟩ = 3 := by simp [effS, doesS, hf]
   have HE1 := Lib.hid e1
   clear e1
   go_wp2_with fail
   go_ret
   exact ⟨by (rw [HT.out, HE1.out]; try rfl), xT⟩
 ·
  go_wp2_with fail
  refine (sFiresIn_k (HS.out.ext E2) ei et ec es 4 oa ob oc od).mono ?_
  rintro e9 w3 ⟨rfl, hx3⟩
  have E3 : Ext w w3 := E2.trans hx3
  rw [HN.out.1, HN.out.2, Bool.true_and, Bool.true_and]
  cases hf : fires s ⟨ei, et, ec, es, ⟨4, oa, ob, oc, od⟩⟩
  ·
   have e1 : effS s ⟨ei, et, ec, es, ⟨4, oa, ob, oc, od⟩⟩ = 0 := by simp [effS, doesS, hf]
   have HE1 := Lib.hid e1
   clear e1
   go_wp2_with fail
   go_ret
   exact ⟨by (rw [HT.out, HE1.out]; try rfl), xT⟩
  have e1 : effS s ⟨ei, et, ec, es, ⟨4, oa, ob, oc, od⟩⟩ = 4 := by simp [effS, doesS, hf]
  have HE1 := Lib.hid e1
  clear e1
  go_wp2_with fail
  go_ret
  exact ⟨by (rw [HT.out, HE1.out]; try rfl), xT⟩
 go_wp2_with fail
 refine (sGranted_e _ _ _ _ ec et oa).mono ?_
 rintro e9 w3 ⟨rfl, hx3⟩
 have E3 : Ext w w3 := E2.trans hx3
 have hl : (⟨s.Lease.Holder, s.Lease.Epoch, s.Lease.Until⟩ : DLease) = s.Lease := rfl
 rw [hl]
 cases hf : grantOk s.Lease ec et oa
 ·
  have e1 : effS s ⟨ei, et, ec, es, ⟨5, oa, ob, oc, od⟩⟩ = 0 := by simp [effS, doesS, hf]
  have HE1 := Lib.hid e1
  clear e1
  go_wp2_with fail
  go_ret
  exact ⟨by (rw [HT.out, HE1.out]; try rfl), xT⟩
 have e1 : effS s ⟨ei, et, ec, es, ⟨5, oa, ob, oc, od⟩⟩ = 5 := by simp [effS, doesS, hf]
 have HE1 := Lib.hid e1
 clear e1
 go_wp2_with fail
 go_ret
 exact ⟨by (rw [HT.out, HE1.out]; try rfl), xT⟩
end Go.Proofs.YtfhaooaajpopmaaGreat
namespace Go.G8
open Go.RowKit Go.Proofs.YtfhaooaajpopmaaGreat
theorem cutL_none {l : List DPair} {k : Int} (h : (at_ DPair.Key k l).isSome = false) : cutL l k = l := by
 cases ha : at_ DPair.Key k l with
 | none =>
  exact filter_all fun a hm => by
   unfold at_ at ha
   rw [List.find?_eq_none] at ha
   have := ha a hm
   simpa using this
 | some d => rw [ha] at h; cases h
theorem step_none {s : DState} {e : DEntry} (hs : stateOk s = true) (hk : e.Op.Kind = 1 ∨ e.Op.Kind = 2 ∨ e.Op.Kind = 3 ∨ e.Op.Kind = 4 ∨ e.Op.Kind = 5) (hd : doesS s e = false) : stepS s e = ⟨e.Index, e.Time, s.Pairs, s.Jobs, s.Lease⟩ := by
 obtain ⟨g1, g2, g3, g4, g5, g6, g7⟩ := stateOk_parts hs
 rcases hk with hk | hk | hk | hk | hk
 ·
  simp [doesS, hk] at hd
 ·
  have h2 : (at_ DPair.Key e.Op.A s.Pairs).isSome = false := by simpa [doesS, hk] using hd
  simp [stepS, hk, cutL_none h2]
 ·
  have h2 : addOk s.Jobs ⟨e.Op.A, e.Op.B, e.Op.C, e.Op.D, 0⟩ = false := by simpa [doesS, hk] using hd
  simp [stepS, hk, addR, g5, h2]
 ·
  have h2 : fires s e = false := by simpa [doesS, hk] using hd
  simp [stepS, hk, h2]
 have h2 : grantOk s.Lease e.Client e.Time e.Op.A = false := by simpa [doesS, hk] using hd
 simp [stepS, hk, grantR, g6, h2]
theorem step_put {s : DState} {e : DEntry} (hs : stateOk s = true) (ho : opOk e.Op = true) (hk : e.Op.Kind = 1) : stepS s e = ⟨e.Index, e.Time, putR s.Pairs e.Op.A e.Op.B, s.Jobs, s.Lease⟩ := by
 obtain ⟨g1, g2, g3, g4, g5, g6, g7⟩ := stateOk_parts hs
 simp [stepS, hk, putR, g4, opOk_put ho hk]
theorem step_cut {s : DState} {e : DEntry} (hs : stateOk s = true) (hk : e.Op.Kind = 2) : stepS s e = ⟨e.Index, e.Time, cutR s.Pairs e.Op.A, s.Jobs, s.Lease⟩ := by
 obtain ⟨g1, g2, g3, g4, g5, g6, g7⟩ := stateOk_parts hs
 simp [stepS, hk, cutR, g4]
theorem step_add {s : DState} {e : DEntry} (hk : e.Op.Kind = 3) : stepS s e = ⟨e.Index, e.Time, s.Pairs, addR s.Jobs ⟨e.Op.A, e.Op.B, e.Op.C, e.Op.D, 0⟩, s.Lease⟩ := by simp [stepS, hk]
theorem step_fire {s : DState} {e : DEntry} (hs : stateOk s = true) (hn : nextIn s e = true) (hk : e.Op.Kind = 4) (hf : fires s e = true) :
  stepS s e = ⟨e.Index, e.Time, putR s.Pairs (jget s.Jobs e.Op.A).Key (jget s.Jobs e.Op.A).Value, fireR s.Jobs e.Op.A e.Index, s.Lease⟩ := by
 obtain ⟨g1, g2, g3, g4, g5, g6, g7⟩ := stateOk_parts hs
 have h1 := fires_fireOk hs hn hf
 have h2 := fires_pairOk hs hf
 have h3 : jobOf s e = jget s.Jobs e.Op.A := rfl
 rw [h3] at h2
 simp [stepS, hk, hf, h3, putR, g4, h2, fireR, g5, h1]
theorem step_lease {s : DState} {e : DEntry} (hk : e.Op.Kind = 5) : stepS s e = ⟨e.Index, e.Time, s.Pairs, s.Jobs, grantR s.Lease e.Client e.Time e.Op.A⟩ := by simp [stepS, hk]
noncomputable def appOk (s : DState) (e : DEntry) : Bool := stateOk s && nextIn s e
noncomputable def appD (s : DState) (e : DEntry) : DState := if stateOk s then (if nextIn s e then stepS s e else s) else ⟨0, 0, [], [], ⟨0, 0, 0⟩⟩
theorem appD_ok {s : DState} {e : DEntry} (h : stateOk s = true) : stateOk (appD s e) = true := by
 unfold appD
 rw [if_pos h]
 split
 ·
  rename_i hn; exact stepS_ok h hn
 exact h
end Go.G8
