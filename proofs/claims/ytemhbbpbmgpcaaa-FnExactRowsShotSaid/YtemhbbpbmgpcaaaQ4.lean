/- Torn rows. -/
import Derived.Test.YtemhbbpbmgpcaaaQ1
set_option linter.unusedSimpArgs false
set_option linter.unusedVariables false
namespace Go.Proofs.Ytemhbbpbmgpcaaa
open Go.RowKit Go.G8

end Go.Proofs.Ytemhbbpbmgpcaaa
namespace Go.G8
open Go.RowKit
def tornRow (row old : List Int) : List Int := row.take (row.length / 2) ++ old.drop (row.length / 2)
theorem tornRow_len {row old : List Int} (h1 : row.length ≤ 48) (h2 : old.length ≤ 48) : (tornRow row old).length ≤ 48 := by
  simp only [tornRow, List.length_append, List.length_take, List.length_drop]; omega
theorem Sl.sliced {n : Nat} {w : World} {a : Option Addr} {len cap : Nat} {cs : List Value} (h : Sl n w (.slice a len cap) cs) {l m : Nat} (h1 : l ≤ m) (h2 : m ≤ len) : Sl n w (Go.sliced a l m cap n) ((cs.take (m * n)).drop (l * n)) := by
  obtain ⟨a', len', cap', e, hl, hlc, hcm, hnil, hc⟩ := h
  injection e with e1 e2 e3
  subst e1; subst e2; subst e3
  unfold Go.sliced
  refine ⟨_, _, _, rfl, ?_, by omega, by omega, ?_, ?_⟩
  · have h5 := Nat.mul_le_mul_right n h2
    simp only [List.length_drop, List.length_take, Nat.sub_mul]
    omega
  · intro h
    split at h
    · omega
    · rw [Option.map_eq_none_iff] at h
      have := hnil h
      omega
  · intro b off sp h h0
    rw [if_neg (by omega), Option.map_eq_some_iff] at h
    obtain ⟨⟨b', off', sp'⟩, rfl, h4⟩ := h
    obtain ⟨rfl, hb, hcell⟩ := hc b' off' sp' rfl (by omega)
    rw [add_lit0] at h4
    injection h4 with h5 h6 h7
    subst h5; subst h6; subst h7
    refine ⟨rfl, hb, fun i u hu => ?_⟩
    rw [Nat.add_assoc]
    apply hcell
    rw [List.getElem?_drop] at hu
    rw [List.getElem?_take] at hu
    split at hu
    · exact hu
    · cases hu
theorem Ints.take {w : World} {a : Option Addr} {len cap : Nat} {xs : List Int} (h : Ints 1 w (.slice a len cap) xs) {m : Nat} (h2 : m ≤ len) : Ints 1 w (.slice a m cap) (xs.take m) := by
  obtain ⟨a', len', cap', e, hl, hlc, hcm, hnil, hc⟩ := h
  injection e with e1 e2 e3
  subst e1; subst e2; subst e3
  refine ⟨_, _, _, rfl, by simp at hl ⊢; omega, by omega, hcm, hnil, fun b off sp h h0 => ?_⟩
  obtain ⟨h3, h4, h5⟩ := hc b off sp h (by omega)
  refine ⟨h3, h4, fun i u hu => h5 i u ?_⟩
  rw [List.map_take, List.getElem?_take] at hu
  split at hu
  · exact hu
  · cases hu
theorem Ints.sliced {w : World} {a : Option Addr} {len cap : Nat} {xs : List Int} (h : Ints 1 w (.slice a len cap) xs) {l m : Nat} (h1 : l ≤ m) (h2 : m ≤ len) : Ints 1 w (Go.sliced a l m cap 1) ((xs.take m).drop l) := by
  have := Sl.sliced h h1 h2
  simp only [Nat.mul_one, ← List.map_take, ← List.map_drop] at this
  exact this
theorem Ints.drop {w : World} {a : Option Addr} {cap : Nat} {xs : List Int} (h : Ints 1 w (.slice a xs.length cap) xs) {m : Nat} (h1 : m < xs.length) (h2 : xs.length ≤ cap) : Ints 1 w (.slice (a.map (fun x => x.add m)) (xs.length - m) (cap - m)) (xs.drop m) := by
  have := h.sliced (l := m) (Nat.le_of_lt h1) (Nat.le_refl _)
  rw [List.take_length] at this
  unfold Go.sliced at this
  rw [if_neg (by omega), Nat.mul_one] at this
  exact this
end Go.G8
namespace Go.Proofs.Ytemhbbpbmgpcaaa
open Go.RowKit Go.G8

end Go.Proofs.Ytemhbbpbmgpcaaa
