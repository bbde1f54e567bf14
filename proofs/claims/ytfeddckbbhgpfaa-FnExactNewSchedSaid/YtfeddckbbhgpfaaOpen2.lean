/- Arguments opened: leaf by leaf. -/
import Derived.Test.YtfeddckbbhgpfaaOpen
import Derived.Test.YtfeddckbbhgpfaaDat
namespace Go.Proofs.Ytfeddckbbhgpfaa
open Go.ChangeShapes Go.WideShapes Go.ChangeAt Go.RowKit Go.G8

theorem cc_Int64 : Try.prog.cellsOf 2 = 1 := by kernel_rfl
theorem cc_Bool : Try.prog.cellsOf 4 = 1 := by kernel_rfl
theorem cc_Due : Try.prog.cellsOf 85 = 2 := by kernel_rfl
theorem cc_Int64S : Try.prog.cellsOf 70 = 1 := by kernel_rfl
theorem cc_DueS : Try.prog.cellsOf 30 = 1 := by kernel_rfl
theorem cc_Jobs : Try.prog.cellsOf 32 = 6 := by kernel_rfl
theorem cc_View : Try.prog.cellsOf 34 = 6 := by kernel_rfl
section
variable {H : Type} {enc : TypeId × Value → H} {W : World} {base : Nat} {sp : Nat → Bool} {held : Bool}

theorem rl_Due {fuel : Nat} {cs : List Value} {x : DataW H × List MemPlace} (h : DataW.trod enc Try.prog W base sp held fuel 85 cs = some x) : ∃ (c0 : Int) (c1 : Int), cs = [.int .i64 c0, .int .i64 c1] := by
  have hl := rd_len Try.underlying85 h
  rw [cc_Due] at hl
  obtain ⟨v0, v1, rfl⟩ : ∃ v0 v1, cs = [v0, v1] := by match cs, hl with | [v0, v1], _ => exact ⟨v0, v1, rfl⟩
  obtain ⟨n0, y0, h0⟩ := rd_field Try.underlying85 h 0 _ rfl
  obtain ⟨n1, y1, h1⟩ := rd_field Try.underlying85 h 1 _ rfl
  simp [cc_Int64] at h0 h1
  obtain ⟨a0, e0, _⟩ := DataW.trod_int Try.underlying2 h0
  simp at e0
  subst e0
  obtain ⟨a1, e1, _⟩ := DataW.trod_int Try.underlying2 h1
  simp at e1
  subst e1
  exact ⟨a0, a1, rfl⟩
theorem rl_Int64S {fuel : Nat} {cs : List Value} {x : DataW H × List MemPlace} (h : DataW.trod enc Try.prog W base sp held fuel 70 cs = some x) : ∃ (s : Value) (l : List Int), cs = [s] ∧ Ints 1 W s l := by
  rcases Deep.open_slice Try.underlying70 h with ⟨rfl, _⟩ | ⟨a, len, cap, m, n, D, Pl, rfl, hb, hl, hm, hmm, _, hx⟩
  · exact ⟨_, [], rfl, Ints.nil 1 W⟩
  · have hlm : len ≤ m := by rw [hmm]; split <;> omega
    obtain ⟨l, _, hi⟩ := Ints.of_each (f := fun x : Int => [x]) (n := 1) (fun _ => rfl) (by decide) (w := W) (a := a) hl hm (fun i hi => by
      obtain ⟨cs', hc, ht⟩ := hx i (by omega)
      rw [cc_Int64] at hc
      obtain ⟨d, rfl, _⟩ := DataW.trod_int Try.underlying2 ht
      obtain ⟨_, _, hcell⟩ := World.cells?_some hc
      refine ⟨d, fun j u hu => ?_⟩
      have hj : j < 1 := by
        rcases Nat.lt_or_ge j 1 with h' | h'
        · exact h'
        · rw [List.getElem?_eq_none (by simpa using h')] at hu; cases hu
      rw [hcell j hj]
      obtain rfl : j = 0 := by omega
      simp at hu
      simp [hu])
    rw [show l.flatMap (fun x : Int => [x]) = l by simp] at hi
    exact ⟨_, l, rfl, hi⟩
theorem rl_DueS {fuel : Nat} {cs : List Value} {x : DataW H × List MemPlace} (h : DataW.trod enc Try.prog W base sp held fuel 30 cs = some x) : ∃ (s : Value) (l : List DDue), cs = [s] ∧ Ints 2 W s (dues l) := by
  rcases Deep.open_slice Try.underlying30 h with ⟨rfl, _⟩ | ⟨a, len, cap, m, n, D, Pl, rfl, hb, hl, hm, hmm, _, hx⟩
  · exact ⟨_, [], rfl, Ints.nil 2 W⟩
  · have hlm : len ≤ m := by rw [hmm]; split <;> omega
    obtain ⟨l, _, hi⟩ := Ints.of_each (f := DDue.ints) (n := 2) (fun _ => rfl) (by decide) (w := W) (a := a) hl hm (fun i hi => by
      obtain ⟨cs', hc, ht⟩ := hx i (by omega)
      rw [cc_Due] at hc
      obtain ⟨b0, b1, rfl⟩ := rl_Due ht
      obtain ⟨_, _, hcell⟩ := World.cells?_some hc
      refine ⟨⟨b0, b1⟩, fun j u hu => ?_⟩
      have hj : j < 2 := by
        rcases Nat.lt_or_ge j 2 with h' | h'
        · exact h'
        · rw [List.getElem?_eq_none (by simpa [DDue.ints] using h')] at hu; cases hu
      rw [hcell j hj]
      match j, hj, hu with
      | 0, _, hu => simpa [DDue.ints] using hu
      | 1, _, hu => simpa [DDue.ints] using hu)
    exact ⟨_, l, rfl, hi⟩
theorem rl_Jobs {fuel : Nat} {cs : List Value} {x : DataW H × List MemPlace} (h : DataW.trod enc Try.prog W base sp held fuel 32 cs = some x) : ∃ (c0 : Int) (c1 : Int) (c2 : Int) (c3 : Int) (c4 : Int) (s5 : Value) (l5 : List DDue), cs = [.int .i64 c0, .int .i64 c1, .int .i64 c2, .int .i64 c3, .int .i64 c4, s5] ∧ Ints 2 W s5 (dues l5) := by
  have hl := rd_len Try.underlying32 h
  rw [cc_Jobs] at hl
  obtain ⟨v0, v1, v2, v3, v4, v5, rfl⟩ : ∃ v0 v1 v2 v3 v4 v5, cs = [v0, v1, v2, v3, v4, v5] := by match cs, hl with | [v0, v1, v2, v3, v4, v5], _ => exact ⟨v0, v1, v2, v3, v4, v5, rfl⟩
  obtain ⟨n0, y0, h0⟩ := rd_field Try.underlying32 h 0 _ rfl
  obtain ⟨n1, y1, h1⟩ := rd_field Try.underlying32 h 1 _ rfl
  obtain ⟨n2, y2, h2⟩ := rd_field Try.underlying32 h 2 _ rfl
  obtain ⟨n3, y3, h3⟩ := rd_field Try.underlying32 h 3 _ rfl
  obtain ⟨n4, y4, h4⟩ := rd_field Try.underlying32 h 4 _ rfl
  obtain ⟨n5, y5, h5⟩ := rd_field Try.underlying32 h 5 _ rfl
  simp [cc_DueS, cc_Int64] at h0 h1 h2 h3 h4 h5
  obtain ⟨a0, e0, _⟩ := DataW.trod_int Try.underlying2 h0
  simp at e0
  subst e0
  obtain ⟨a1, e1, _⟩ := DataW.trod_int Try.underlying2 h1
  simp at e1
  subst e1
  obtain ⟨a2, e2, _⟩ := DataW.trod_int Try.underlying2 h2
  simp at e2
  subst e2
  obtain ⟨a3, e3, _⟩ := DataW.trod_int Try.underlying2 h3
  simp at e3
  subst e3
  obtain ⟨a4, e4, _⟩ := DataW.trod_int Try.underlying2 h4
  simp at e4
  subst e4
  obtain ⟨a5, m5, e5, r5⟩ := rl_DueS h5
  simp at e5
  subst e5
  exact ⟨a0, a1, a2, a3, a4, _, m5, rfl, r5⟩
theorem rl_View {fuel : Nat} {cs : List Value} {x : DataW H × List MemPlace} (h : DataW.trod enc Try.prog W base sp held fuel 34 cs = some x) : ∃ (c0 : Int) (c1 : Int) (c2 : Int) (c3 : Int) (c4 : Int) (s5 : Value) (l5 : List DDue), cs = [.int .i64 c0, .int .i64 c1, .int .i64 c2, .int .i64 c3, .int .i64 c4, s5] ∧ Ints 2 W s5 (dues l5) := by
  have hl := rd_len Try.underlying34 h
  rw [cc_View] at hl
  obtain ⟨v0, v1, v2, v3, v4, v5, rfl⟩ : ∃ v0 v1 v2 v3 v4 v5, cs = [v0, v1, v2, v3, v4, v5] := by match cs, hl with | [v0, v1, v2, v3, v4, v5], _ => exact ⟨v0, v1, v2, v3, v4, v5, rfl⟩
  obtain ⟨n0, y0, h0⟩ := rd_field Try.underlying34 h 0 _ rfl
  simp [cc_Jobs] at h0
  obtain ⟨z0c0, z0c1, z0c2, z0c3, z0c4, z0s5, z0l5, e0, r0_0⟩ := rl_Jobs h0
  simp at e0
  obtain ⟨e0_0, e0_1, e0_2, e0_3, e0_4, e0_5⟩ := e0
  subst e0_0; subst e0_1; subst e0_2; subst e0_3; subst e0_4; subst e0_5
  exact ⟨_, _, _, _, _, _, z0l5, rfl, r0_0⟩
end
end Go.Proofs.Ytfeddckbbhgpfaa
