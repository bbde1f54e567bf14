/- What holds blocks apart. -/
import Derived.Test.YtemhbbpbmgpcaaaNest2
namespace Go.G8
open Go.RowKit
theorem tot_zero (l : List NRow) : tot 0 l ≤ rowsSize l := by
  have : (l.map (fun r : NRow => 0 + r.2.length)).sum = (l.map (fun r : NRow => r.2.length)).sum := by simp
  unfold tot rowsSize; omega
theorem tot_one (l : List NRow) : tot 1 l ≤ rowsSize l := by
  unfold tot rowsSize
  induction l with
  | nil => simp
  | cons x l ih => simp only [List.map_cons, List.sum_cons, List.length_cons]; omega
theorem Own.typed {B : Nat} {e : TypeId} {n : Nat} {w : World} {v : Value} {cs : List Value} (h : Own B e n w v cs) {X : Nat} (hX : v.ownBlock = some X) : ∃ cur, Blk w X e cur := by
  obtain ⟨len, h⟩ := h
  rcases h.2 with ⟨h0, _⟩ | ⟨g, cap, cur, hv, hb, hg, _⟩
  · rw [h0] at hX; simp [Value.ownBlock] at hX
  · rw [hv] at hX
    simp [Value.ownBlock] at hX
    subst hX
    exact ⟨cur, hg⟩
theorem Blk.same {w : World} {X : Nat} {t t' : TypeId} {a b : Array Value} (h : Blk w X t a) (k : Blk w X t' b) : t = t' := by
  unfold Blk at h k
  rw [h] at k
  injection k with k; injection k with _ k
theorem OwnNs.typed {B : Nat} {e e1 : TypeId} {n : Nat} {w : World} {v : Value} {rows : List NRow} {ss : List Value} (h : OwnNs B e e1 n w v rows ss) {k : Nat} (hk : k ∈ feet (v :: ss)) : ∃ t cur, Blk w k t cur ∧ (t = e ∨ t = e1) := by
  simp only [feet, List.mem_filterMap] at hk
  obtain ⟨u, hu, hf⟩ := hk
  rcases List.mem_cons.1 hu with rfl | hu
  · obtain ⟨cur, hb⟩ := Own.typed h.2.2.1 hf
    exact ⟨e, cur, hb, .inl rfl⟩
  · obtain ⟨i, hi⟩ := List.mem_iff_getElem?.1 hu
    have hlt : i < rows.length := by have := (List.getElem?_eq_some_iff.1 hi).1; have := h.2.1; omega
    obtain ⟨cur, hb⟩ := Own.typed (h.2.2.2.own i u rows[i] hi (List.getElem?_eq_getElem hlt)) hf
    exact ⟨e1, cur, hb, .inr rfl⟩
theorem OwnI.typed {B : Nat} {e : TypeId} {n : Nat} {w : World} {v : Value} {xs : List Int} (h : OwnI B e n w v xs) {k : Nat} (hk : k ∈ feet [v]) : ∃ cur, Blk w k e cur := by
  simp only [feet, List.mem_filterMap] at hk
  obtain ⟨u, hu, hf⟩ := hk
  simp at hu; subst hu
  exact Own.typed h hf
theorem ns_apart {B B' : Nat} {e e1 e2 : TypeId} {n m : Nat} {w : World} {v v1 : Value} {rows : List NRow} {ss : List Value} {xs : List Int} (h : OwnNs B e e1 n w v rows ss) (h1 : OwnI B' e2 m w v1 xs) (n1 : e2 ≠ e) (n2 : e2 ≠ e1) : ∀ k, k ∈ feet (v :: ss) → k ∈ feet [v1] → False := by
  intro k hk hk1
  obtain ⟨t, cur, hb, ht⟩ := h.typed hk
  obtain ⟨c2, hb2⟩ := h1.typed hk1
  have := hb2.same hb
  rcases ht with rfl | rfl
  · exact n1 this
  · exact n2 this
theorem i_apart {B B' : Nat} {e e2 : TypeId} {n m : Nat} {w : World} {v v1 : Value} {ys xs : List Int} (h : OwnI B e n w v ys) (h1 : OwnI B' e2 m w v1 xs) (n1 : e2 ≠ e) : ∀ k, k ∈ feet [v] → k ∈ feet [v1] → False := by
  intro k hk hk1
  obtain ⟨cur, hb⟩ := h.typed hk
  obtain ⟨c2, hb2⟩ := h1.typed hk1
  exact n1 (hb2.same hb)
end Go.G8
