/- Contracts and plain laws: Nest2 KA. -/
import Derived.Test.YtemfcogdjmjplaaGa
import Derived.Deep.AppendLies
import Derived.Deep.RegionLaw
set_option linter.unusedSimpArgs false
set_option linter.unusedVariables false
-- Rows are appended and moved.
namespace Go.G8
open Go.RowKit

theorem Upd.grown {w w' : World} {row : Option Nat} {fs : List Nat} (h : w.grownBy w' row) (hr : ∀ k, row = some k → k ∈ fs) : Upd w w' fs :=
  ⟨h.os, h.tape, h.output, h.size, fun i hi hn => h.block i hi (fun e => hn (hr i e.symm))⟩
theorem Upd.own {a w w' : World} {B : Nat} {e : TypeId} {n : Nat} {v : Value} {cs : List Value} {fs : List Nat} (h : Upd a w fs) (hown : Own B e n w v cs) (hB : a.heap.size ≤ B) (hg : w.grownBy w' v.ownBlock) : Upd a w' fs :=
  ⟨hg.os.trans h.os, hg.tape.trans h.tape, hg.output.trans h.output, Nat.le_trans h.size hg.size, fun i hi hn => (hg.block i (Nat.lt_of_lt_of_le hi h.size) (fun e => by have := (hown.lt e.symm).1; omega)).trans (h.block i hi hn)⟩
end Go.G8
namespace Go.G8
open Go.RowKit
section
variable {P : Program} {w : World} {B B2 : Nat} {e e1 : TypeId} {n : Nat} {v : Value} {rows : List NRow} {ss : List Value} {r : NRow} {t : Value}
/-- Opened: the outer block, and each element's cells. -/
theorem OwnNs.len (h : OwnNs B e e1 n w v rows ss) : ∃ a cap, v = .slice a rows.length cap ∧ rows.length ≤ cap ∧ cap ≤ maxLen := by
  obtain ⟨a, len, cap, h2, h3, h4, h5, _⟩ := Own.open_ h.2.2.1
  rw [ncells_len h.1 h.2.1] at h3
  have := Nat.eq_of_mul_eq_mul_right (by omega) h3
  subst this
  exact ⟨a, cap, h2, h4, h5⟩
theorem OwnNs.open_ (h : OwnNs B e e1 n w v rows ss) (hp : 0 < rows.length) : ∃ g cap cur, v = .slice (some ⟨g, 0, none⟩) rows.length cap ∧ rows.length ≤ cap ∧ cap ≤ maxLen ∧ B ≤ g ∧ Blk w g e cur ∧
    ∀ i q u, rows[i]? = some q → ss[i]? = some u → (∀ j y, q.1[j]? = some y → cur[i * (n + 1) + j]? = some (.int .i64 y)) ∧ cur[i * (n + 1) + n]? = some u := by
  obtain ⟨a, len, cap, h2, h3, h4, h5, hcase⟩ := Own.open_ h.2.2.1
  have hnl := ncells_len h.1 h.2.1
  have h3' := h3
  rw [hnl] at h3
  have := Nat.eq_of_mul_eq_mul_right (by omega) h3
  subst this
  rcases hcase with hz | ⟨g, cur, rfl, hBg, hblk, hcsz, hpre⟩
  · omega
  · refine ⟨g, cap, cur, h2, h4, h5, hBg, hblk, fun i q u hq hu => ⟨fun j y hy => ?_, ?_⟩⟩
    · have hj : j < q.1.length := (List.getElem?_eq_some_iff.1 hy).1
      have hqn := h.1 q (List.mem_of_getElem? hq)
      have h7 := mul_lt_of (List.getElem?_eq_some_iff.1 hq).1 (n + 1)
      rw [hpre _ (by omega)]
      exact ncells_int h.1 hq hu hy
    · have h7 := mul_lt_of (List.getElem?_eq_some_iff.1 hq).1 (n + 1)
      rw [hpre _ (by omega)]
      exact ncells_sl h.1 hq hu
end
end Go.G8

-- What holds blocks apart.
namespace Go.G8
open Go.RowKit
theorem Own.typed {B : Nat} {e : TypeId} {n : Nat} {w : World} {v : Value} {cs : List Value} (h : Own B e n w v cs) {X : Nat} (hX : v.ownBlock = some X) : ∃ cur, Blk w X e cur := by
  obtain ⟨len, h⟩ := h
  rcases h.2 with ⟨h0, _⟩ | ⟨g, cap, cur, hv, hb, hg, _⟩
  · rw [h0] at hX; simp [Value.ownBlock] at hX
  · rw [hv] at hX
    simp [Value.ownBlock] at hX
    subst hX
    exact ⟨cur, hg⟩
theorem Blk.same {w : World} {X : Nat} {t t' : TypeId} {a b : Array Value} (h : Blk w X t a) (k : Blk w X t' b) : t = t' := by
  unfold Blk at h k
  rw [h] at k
  injection k with k; injection k with _ k
theorem OwnNs.typed {B : Nat} {e e1 : TypeId} {n : Nat} {w : World} {v : Value} {rows : List NRow} {ss : List Value} (h : OwnNs B e e1 n w v rows ss) {k : Nat} (hk : k ∈ feet (v :: ss)) : ∃ t cur, Blk w k t cur ∧ (t = e ∨ t = e1) := by
  simp only [feet, List.mem_filterMap] at hk
  obtain ⟨u, hu, hf⟩ := hk
  rcases List.mem_cons.1 hu with rfl | hu
  · obtain ⟨cur, hb⟩ := Own.typed h.2.2.1 hf
    exact ⟨e, cur, hb, .inl rfl⟩
  · obtain ⟨i, hi⟩ := List.mem_iff_getElem?.1 hu
    have hlt : i < rows.length := by have := (List.getElem?_eq_some_iff.1 hi).1; have := h.2.1; omega
    obtain ⟨cur, hb⟩ := Own.typed (h.2.2.2.own i u rows[i] hi (List.getElem?_eq_getElem hlt)) hf
    exact ⟨e1, cur, hb, .inr rfl⟩
theorem OwnI.typed {B : Nat} {e : TypeId} {n : Nat} {w : World} {v : Value} {xs : List Int} (h : OwnI B e n w v xs) {k : Nat} (hk : k ∈ feet [v]) : ∃ cur, Blk w k e cur := by
  simp only [feet, List.mem_filterMap] at hk
  obtain ⟨u, hu, hf⟩ := hk
  simp at hu; subst hu
  exact Own.typed h hf
end Go.G8
