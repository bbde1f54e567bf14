/- Torn rows. -/
import Derived.Test.YtankkbjlneeolaaQ1
set_option linter.unusedSimpArgs false
set_option linter.unusedVariables false
namespace Go.Proofs.Ytankkbjlneeolaa
open Go.RowKit Go.G8

end Go.Proofs.Ytankkbjlneeolaa
namespace Go.G8
open Go.RowKit
def tornRow (row old : List Int) : List Int := row.take (row.length / 2) ++ old.drop (row.length / 2)
theorem tornRow_len {row old : List Int} (h1 : row.length ≤ 48) (h2 : old.length ≤ 48) : (tornRow row old).length ≤ 48 := by
  simp only [tornRow, List.length_append, List.length_take, List.length_drop]; omega
theorem Sl.sliced {n : Nat} {w : World} {a : Option Addr} {len cap : Nat} {cs : List Value} (h : Sl n w (.slice a len cap) cs) {l m : Nat} (h1 : l ≤ m) (h2 : m ≤ len) : Sl n w (Go.sliced a l m cap n) ((cs.take (m * n)).drop (l * n)) := by
  obtain ⟨a', len', cap', e, hl, hlc, hcm, hnil, hc⟩ := h
  injection e with e1 e2 e3
  subst e1; subst e2; subst e3
  unfold Go.sliced
  refine ⟨_, _, _, rfl, ?_, by omega, by omega, ?_, ?_⟩
  · have h5 := Nat.mul_le_mul_right n h2
    simp only [List.length_drop, List.length_take, Nat.sub_mul]
    omega
  · intro h
    split at h
    · omega
    · rw [Option.map_eq_none_iff] at h
      have := hnil h
      omega
  · intro b off sp h h0
    rw [if_neg (by omega), Option.map_eq_some_iff] at h
    obtain ⟨⟨b', off', sp'⟩, rfl, h4⟩ := h
    obtain ⟨rfl, hb, hcell⟩ := hc b' off' sp' rfl (by omega)
    rw [add_lit0] at h4
    injection h4 with h5 h6 h7
    subst h5; subst h6; subst h7
    refine ⟨rfl, hb, fun i u hu => ?_⟩
    rw [Nat.add_assoc]
    apply hcell
    rw [List.getElem?_drop] at hu
    rw [List.getElem?_take] at hu
    split at hu
    · exact hu
    · cases hu
theorem Ints.take {w : World} {a : Option Addr} {len cap : Nat} {xs : List Int} (h : Ints 1 w (.slice a len cap) xs) {m : Nat} (h2 : m ≤ len) : Ints 1 w (.slice a m cap) (xs.take m) := by
  obtain ⟨a', len', cap', e, hl, hlc, hcm, hnil, hc⟩ := h
  injection e with e1 e2 e3
  subst e1; subst e2; subst e3
  refine ⟨_, _, _, rfl, by simp at hl ⊢; omega, by omega, hcm, hnil, fun b off sp h h0 => ?_⟩
  obtain ⟨h3, h4, h5⟩ := hc b off sp h (by omega)
  refine ⟨h3, h4, fun i u hu => h5 i u ?_⟩
  rw [List.map_take, List.getElem?_take] at hu
  split at hu
  · exact hu
  · cases hu
theorem Ints.sliced {w : World} {a : Option Addr} {len cap : Nat} {xs : List Int} (h : Ints 1 w (.slice a len cap) xs) {l m : Nat} (h1 : l ≤ m) (h2 : m ≤ len) : Ints 1 w (Go.sliced a l m cap 1) ((xs.take m).drop l) := by
  have := Sl.sliced h h1 h2
  simp only [Nat.mul_one, ← List.map_take, ← List.map_drop] at this
  exact this
theorem Ints.drop {w : World} {a : Option Addr} {cap : Nat} {xs : List Int} (h : Ints 1 w (.slice a xs.length cap) xs) {m : Nat} (h1 : m < xs.length) (h2 : xs.length ≤ cap) : Ints 1 w (.slice (a.map (fun x => x.add m)) (xs.length - m) (cap - m)) (xs.drop m) := by
  have := h.sliced (l := m) (Nat.le_of_lt h1) (Nat.le_refl _)
  rw [List.take_length] at this
  unfold Go.sliced at this
  rw [if_neg (by omega), Nat.mul_one] at this
  exact this
end Go.G8
namespace Go.Proofs.Ytankkbjlneeolaa
open Go.RowKit Go.G8
set_option maxHeartbeats 1600000 in
set_option maxRecDepth 100000 in
theorem l3Torn_c (w : World) (s0_0 : Value) (l0_0 : List Int) (s1_0 : Value) (l1_0 : List Int) (h0_0 : Ints 1 w s0_0 l0_0) (h1_0 : Ints 1 w s1_0 l1_0) (e0 : l0_0.length ≤ 1000) (e1 : l1_0.length ≤ 1000) :
    Calls Try.prog 98 #[s0_0, s1_0] w (Ret w fun r0 w' => OwnI w.heap.size 2 1 w' r0 (tornRow l0_0 l1_0)) := by
  obtain ⟨a0, cap0, rfl, hc0, hm0, _⟩ := h0_0.one
  obtain ⟨a1, cap1, rfl, hc1, hm1, _⟩ := h1_0.one
  unfold maxLen at hm0 hm1
  obtain ⟨i0, hi, hz0, hz1, hz2⟩ := info_parts info_Int64
  have hq : (l0_0.length : Int).tdiv 2 = ((l0_0.length / 2 : Nat) : Int) := rfl
  obtain ⟨m, hm⟩ : ∃ m, m = l0_0.length / 2 := ⟨_, rfl⟩
  rw [← hm] at hq
  have hml : m ≤ l0_0.length := by omega
  have HM := Lib.hid hm
  clear hm
  go_enter Try.func98, Try.ntmps98
  by_cases hlt : m < l1_0.length
  · go_wp2_with (first | (go_at_call 97; refine (l1Copy_c _ _ _ (h0_0.take hml) (by simp; omega)).mono ?_; rintro e w1 ⟨_, rfl, hx1, g1⟩; obtain ⟨ta, tn, tc, rfl⟩ := g1.shape; have hsz1 := hx1.size) | (at_builtin; refine wp_append rfl (.tmp 18) (.tmp 21) 34 rfl 2 i0 _ 1 8 Try.underlying34 hi hz0 hz1 hz2 rfl (by decide) w.heap.size _ _ rfl g1 _ ((l1_0.drop m).map (.int .i64)) rfl ((h1_0.drop hlt hc1).ext hx1) (ints_oneCell _ _) 100000 (by simp; omega) (by unfold maxLen; omega) (by omega) (by omega) w hx1 (Nat.le_refl _) ?_; rotate_right; intro v1 wa hown1 hea _))
    go_ret
    refine ⟨_, rfl, hea, ?_⟩
    unfold tornRow
    rw [← HM.out]
    simpa [OwnI] using hown1
  · go_wp2_with (first | (go_at_call 97; refine (l1Copy_c _ _ _ (h0_0.take hml) (by simp; omega)).mono ?_; rintro e w1 ⟨_, rfl, hx1, g1⟩; obtain ⟨ta, tn, tc, rfl⟩ := g1.shape; have hsz1 := hx1.size))
    go_ret
    refine ⟨_, rfl, hx1, ?_⟩
    unfold tornRow
    rw [← HM.out, List.drop_eq_nil_of_le (by omega), List.append_nil]
    exact g1
set_option maxHeartbeats 1600000 in
set_option maxRecDepth 100000 in
theorem torn_c (w : World) (s0_0 : Value) (l0_0 : List Int) (s1_0 : Value) (l1_0 : List Int) (h0_0 : Ints 1 w s0_0 l0_0) (h1_0 : Ints 1 w s1_0 l1_0) (e0 : l0_0.length ≤ 1000) (e1 : l1_0.length ≤ 1000) :
    Calls Try.prog 64 #[s0_0, s1_0] w (Ret w fun r0 w' => OwnI w.heap.size 2 1 w' r0 (tornRow l0_0 l1_0)) := by
  obtain ⟨a0, cap0, rfl, hc0, hm0, _⟩ := h0_0.one
  obtain ⟨a1, cap1, rfl, hc1, hm1, _⟩ := h1_0.one
  unfold maxLen at hm0 hm1
  obtain ⟨i0, hi, hz0, hz1, hz2⟩ := info_parts info_Int64
  have hq : (l0_0.length : Int).tdiv 2 = ((l0_0.length / 2 : Nat) : Int) := rfl
  obtain ⟨m, hm⟩ : ∃ m, m = l0_0.length / 2 := ⟨_, rfl⟩
  rw [← hm] at hq
  have hml : m ≤ l0_0.length := by omega
  have HM := Lib.hid hm
  clear hm
  go_enter Try.func64, Try.ntmps64
  by_cases hlt : m < l1_0.length
  · go_wp2_with (first | (go_at_call 109; refine (copyRow_c _ _ _ (h0_0.take hml) (by simp; omega)).mono ?_; rintro e w1 ⟨_, rfl, hx1, g1⟩; obtain ⟨ta, tn, tc, rfl⟩ := g1.shape; have hsz1 := hx1.size) | (at_builtin; refine wp_append rfl (.tmp 18) (.tmp 21) 34 rfl 2 i0 _ 1 8 Try.underlying34 hi hz0 hz1 hz2 rfl (by decide) w.heap.size _ _ rfl g1 _ ((l1_0.drop m).map (.int .i64)) rfl ((h1_0.drop hlt hc1).ext hx1) (ints_oneCell _ _) 100000 (by simp; omega) (by unfold maxLen; omega) (by omega) (by omega) w hx1 (Nat.le_refl _) ?_; rotate_right; intro v1 wa hown1 hea _))
    go_ret
    refine ⟨_, rfl, hea, ?_⟩
    unfold tornRow
    rw [← HM.out]
    simpa [OwnI] using hown1
  · go_wp2_with (first | (go_at_call 109; refine (copyRow_c _ _ _ (h0_0.take hml) (by simp; omega)).mono ?_; rintro e w1 ⟨_, rfl, hx1, g1⟩; obtain ⟨ta, tn, tc, rfl⟩ := g1.shape; have hsz1 := hx1.size))
    go_ret
    refine ⟨_, rfl, hx1, ?_⟩
    unfold tornRow
    rw [← HM.out, List.drop_eq_nil_of_le (by omega), List.append_nil]
    exact g1

end Go.Proofs.Ytankkbjlneeolaa
