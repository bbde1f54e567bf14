/- Arguments opened: leaf by leaf. -/
import Derived.Test.YtemhbbpbmgpcaaaOpen
import Derived.Test.YtemhbbpbmgpcaaaDat
namespace Go.Proofs.Ytemhbbpbmgpcaaa
open Go.ChangeShapes Go.WideShapes Go.ChangeAt Go.RowKit Go.G8

theorem cc_Int64 : Try.prog.cellsOf 2 = 1 := by kernel_rfl
theorem cc_Bool : Try.prog.cellsOf 4 = 1 := by kernel_rfl
theorem cc_Pair : Try.prog.cellsOf 108 = 2 := by kernel_rfl
theorem cc_Job : Try.prog.cellsOf 110 = 5 := by kernel_rfl
theorem cc_Lease : Try.prog.cellsOf 25 = 3 := by kernel_rfl
theorem cc_Int64S : Try.prog.cellsOf 52 = 1 := by kernel_rfl
theorem cc_PairS : Try.prog.cellsOf 22 = 1 := by kernel_rfl
theorem cc_JobS : Try.prog.cellsOf 23 = 1 := by kernel_rfl
theorem cc_State : Try.prog.cellsOf 27 = 7 := by kernel_rfl
theorem cc_Shot : Try.prog.cellsOf 29 = 8 := by kernel_rfl
section
variable {H : Type} {enc : TypeId × Value → H} {W : World} {base : Nat} {sp : Nat → Bool} {held : Bool}

theorem rl_Pair {fuel : Nat} {cs : List Value} {x : DataW H × List MemPlace} (h : DataW.trod enc Try.prog W base sp held fuel 108 cs = some x) : ∃ (c0 : Int) (c1 : Int), cs = [.int .i64 c0, .int .i64 c1] := by
  have hl := rd_len Try.underlying108 h
  rw [cc_Pair] at hl
  obtain ⟨v0, v1, rfl⟩ : ∃ v0 v1, cs = [v0, v1] := by match cs, hl with | [v0, v1], _ => exact ⟨v0, v1, rfl⟩
  obtain ⟨n0, y0, h0⟩ := rd_field Try.underlying108 h 0 _ rfl
  obtain ⟨n1, y1, h1⟩ := rd_field Try.underlying108 h 1 _ rfl
  simp [cc_Int64] at h0 h1
  obtain ⟨a0, e0, _⟩ := DataW.trod_int Try.underlying2 h0
  simp at e0
  subst e0
  obtain ⟨a1, e1, _⟩ := DataW.trod_int Try.underlying2 h1
  simp at e1
  subst e1
  exact ⟨a0, a1, rfl⟩
theorem rl_Job {fuel : Nat} {cs : List Value} {x : DataW H × List MemPlace} (h : DataW.trod enc Try.prog W base sp held fuel 110 cs = some x) : ∃ (c0 : Int) (c1 : Int) (c2 : Int) (c3 : Int) (c4 : Int), cs = [.int .i64 c0, .int .i64 c1, .int .i64 c2, .int .i64 c3, .int .i64 c4] := by
  have hl := rd_len Try.underlying110 h
  rw [cc_Job] at hl
  obtain ⟨v0, v1, v2, v3, v4, rfl⟩ : ∃ v0 v1 v2 v3 v4, cs = [v0, v1, v2, v3, v4] := by match cs, hl with | [v0, v1, v2, v3, v4], _ => exact ⟨v0, v1, v2, v3, v4, rfl⟩
  obtain ⟨n0, y0, h0⟩ := rd_field Try.underlying110 h 0 _ rfl
  obtain ⟨n1, y1, h1⟩ := rd_field Try.underlying110 h 1 _ rfl
  obtain ⟨n2, y2, h2⟩ := rd_field Try.underlying110 h 2 _ rfl
  obtain ⟨n3, y3, h3⟩ := rd_field Try.underlying110 h 3 _ rfl
  obtain ⟨n4, y4, h4⟩ := rd_field Try.underlying110 h 4 _ rfl
  simp [cc_Int64] at h0 h1 h2 h3 h4
  obtain ⟨a0, e0, _⟩ := DataW.trod_int Try.underlying2 h0
  simp at e0
  subst e0
  obtain ⟨a1, e1, _⟩ := DataW.trod_int Try.underlying2 h1
  simp at e1
  subst e1
  obtain ⟨a2, e2, _⟩ := DataW.trod_int Try.underlying2 h2
  simp at e2
  subst e2
  obtain ⟨a3, e3, _⟩ := DataW.trod_int Try.underlying2 h3
  simp at e3
  subst e3
  obtain ⟨a4, e4, _⟩ := DataW.trod_int Try.underlying2 h4
  simp at e4
  subst e4
  exact ⟨a0, a1, a2, a3, a4, rfl⟩
theorem rl_Lease {fuel : Nat} {cs : List Value} {x : DataW H × List MemPlace} (h : DataW.trod enc Try.prog W base sp held fuel 25 cs = some x) : ∃ (c0 : Int) (c1 : Int) (c2 : Int), cs = [.int .i64 c0, .int .i64 c1, .int .i64 c2] := by
  have hl := rd_len Try.underlying25 h
  rw [cc_Lease] at hl
  obtain ⟨v0, v1, v2, rfl⟩ : ∃ v0 v1 v2, cs = [v0, v1, v2] := by match cs, hl with | [v0, v1, v2], _ => exact ⟨v0, v1, v2, rfl⟩
  obtain ⟨n0, y0, h0⟩ := rd_field Try.underlying25 h 0 _ rfl
  obtain ⟨n1, y1, h1⟩ := rd_field Try.underlying25 h 1 _ rfl
  obtain ⟨n2, y2, h2⟩ := rd_field Try.underlying25 h 2 _ rfl
  simp [cc_Int64] at h0 h1 h2
  obtain ⟨a0, e0, _⟩ := DataW.trod_int Try.underlying2 h0
  simp at e0
  subst e0
  obtain ⟨a1, e1, _⟩ := DataW.trod_int Try.underlying2 h1
  simp at e1
  subst e1
  obtain ⟨a2, e2, _⟩ := DataW.trod_int Try.underlying2 h2
  simp at e2
  subst e2
  exact ⟨a0, a1, a2, rfl⟩
theorem rl_Int64S {fuel : Nat} {cs : List Value} {x : DataW H × List MemPlace} (h : DataW.trod enc Try.prog W base sp held fuel 52 cs = some x) : ∃ (s : Value) (l : List Int), cs = [s] ∧ Ints 1 W s l := by
  rcases Deep.open_slice Try.underlying52 h with ⟨rfl, _⟩ | ⟨a, len, cap, m, n, D, Pl, rfl, hb, hl, hm, hmm, _, hx⟩
  · exact ⟨_, [], rfl, Ints.nil 1 W⟩
  · have hlm : len ≤ m := by rw [hmm]; split <;> omega
    obtain ⟨l, _, hi⟩ := Ints.of_each (f := fun x : Int => [x]) (n := 1) (fun _ => rfl) (by decide) (w := W) (a := a) hl hm (fun i hi => by
      obtain ⟨cs', hc, ht⟩ := hx i (by omega)
      rw [cc_Int64] at hc
      obtain ⟨d, rfl, _⟩ := DataW.trod_int Try.underlying2 ht
      obtain ⟨_, _, hcell⟩ := World.cells?_some hc
      refine ⟨d, fun j u hu => ?_⟩
      have hj : j < 1 := by
        rcases Nat.lt_or_ge j 1 with h' | h'
        · exact h'
        · rw [List.getElem?_eq_none (by simpa using h')] at hu; cases hu
      rw [hcell j hj]
      obtain rfl : j = 0 := by omega
      simp at hu
      simp [hu])
    rw [show l.flatMap (fun x : Int => [x]) = l by simp] at hi
    exact ⟨_, l, rfl, hi⟩
theorem rl_PairS {fuel : Nat} {cs : List Value} {x : DataW H × List MemPlace} (h : DataW.trod enc Try.prog W base sp held fuel 22 cs = some x) : ∃ (s : Value) (l : List DPair), cs = [s] ∧ Ints 2 W s (flPair l) := by
  rcases Deep.open_slice Try.underlying22 h with ⟨rfl, _⟩ | ⟨a, len, cap, m, n, D, Pl, rfl, hb, hl, hm, hmm, _, hx⟩
  · exact ⟨_, [], rfl, Ints.nil 2 W⟩
  · have hlm : len ≤ m := by rw [hmm]; split <;> omega
    obtain ⟨l, _, hi⟩ := Ints.of_each (f := DPair.ints) (n := 2) (fun _ => rfl) (by decide) (w := W) (a := a) hl hm (fun i hi => by
      obtain ⟨cs', hc, ht⟩ := hx i (by omega)
      rw [cc_Pair] at hc
      obtain ⟨b0, b1, rfl⟩ := rl_Pair ht
      obtain ⟨_, _, hcell⟩ := World.cells?_some hc
      refine ⟨⟨b0, b1⟩, fun j u hu => ?_⟩
      have hj : j < 2 := by
        rcases Nat.lt_or_ge j 2 with h' | h'
        · exact h'
        · rw [List.getElem?_eq_none (by simpa [DPair.ints] using h')] at hu; cases hu
      rw [hcell j hj]
      match j, hj, hu with
      | 0, _, hu => simpa [DPair.ints] using hu
      | 1, _, hu => simpa [DPair.ints] using hu)
    exact ⟨_, l, rfl, hi⟩
theorem rl_JobS {fuel : Nat} {cs : List Value} {x : DataW H × List MemPlace} (h : DataW.trod enc Try.prog W base sp held fuel 23 cs = some x) : ∃ (s : Value) (l : List DJob), cs = [s] ∧ Ints 5 W s (flJob l) := by
  rcases Deep.open_slice Try.underlying23 h with ⟨rfl, _⟩ | ⟨a, len, cap, m, n, D, Pl, rfl, hb, hl, hm, hmm, _, hx⟩
  · exact ⟨_, [], rfl, Ints.nil 5 W⟩
  · have hlm : len ≤ m := by rw [hmm]; split <;> omega
    obtain ⟨l, _, hi⟩ := Ints.of_each (f := DJob.ints) (n := 5) (fun _ => rfl) (by decide) (w := W) (a := a) hl hm (fun i hi => by
      obtain ⟨cs', hc, ht⟩ := hx i (by omega)
      rw [cc_Job] at hc
      obtain ⟨b0, b1, b2, b3, b4, rfl⟩ := rl_Job ht
      obtain ⟨_, _, hcell⟩ := World.cells?_some hc
      refine ⟨⟨b0, b1, b2, b3, b4⟩, fun j u hu => ?_⟩
      have hj : j < 5 := by
        rcases Nat.lt_or_ge j 5 with h' | h'
        · exact h'
        · rw [List.getElem?_eq_none (by simpa [DJob.ints] using h')] at hu; cases hu
      rw [hcell j hj]
      match j, hj, hu with
      | 0, _, hu => simpa [DJob.ints] using hu
      | 1, _, hu => simpa [DJob.ints] using hu
      | 2, _, hu => simpa [DJob.ints] using hu
      | 3, _, hu => simpa [DJob.ints] using hu
      | 4, _, hu => simpa [DJob.ints] using hu)
    exact ⟨_, l, rfl, hi⟩
theorem rl_State {fuel : Nat} {cs : List Value} {x : DataW H × List MemPlace} (h : DataW.trod enc Try.prog W base sp held fuel 27 cs = some x) : ∃ (c0 : Int) (c1 : Int) (s2 : Value) (l2 : List DPair) (s3 : Value) (l3 : List DJob) (c4 : Int) (c5 : Int) (c6 : Int), cs = [.int .i64 c0, .int .i64 c1, s2, s3, .int .i64 c4, .int .i64 c5, .int .i64 c6] ∧ Ints 2 W s2 (flPair l2) ∧ Ints 5 W s3 (flJob l3) := by
  have hl := rd_len Try.underlying27 h
  rw [cc_State] at hl
  obtain ⟨v0, v1, v2, v3, v4, v5, v6, rfl⟩ : ∃ v0 v1 v2 v3 v4 v5 v6, cs = [v0, v1, v2, v3, v4, v5, v6] := by match cs, hl with | [v0, v1, v2, v3, v4, v5, v6], _ => exact ⟨v0, v1, v2, v3, v4, v5, v6, rfl⟩
  obtain ⟨n0, y0, h0⟩ := rd_field Try.underlying27 h 0 _ rfl
  obtain ⟨n1, y1, h1⟩ := rd_field Try.underlying27 h 1 _ rfl
  obtain ⟨n2, y2, h2⟩ := rd_field Try.underlying27 h 2 _ rfl
  obtain ⟨n3, y3, h3⟩ := rd_field Try.underlying27 h 3 _ rfl
  obtain ⟨n4, y4, h4⟩ := rd_field Try.underlying27 h 4 _ rfl
  simp [cc_Int64, cc_JobS, cc_Lease, cc_PairS] at h0 h1 h2 h3 h4
  obtain ⟨a0, e0, _⟩ := DataW.trod_int Try.underlying2 h0
  simp at e0
  subst e0
  obtain ⟨a1, e1, _⟩ := DataW.trod_int Try.underlying2 h1
  simp at e1
  subst e1
  obtain ⟨a2, m2, e2, r2⟩ := rl_PairS h2
  simp at e2
  subst e2
  obtain ⟨a3, m3, e3, r3⟩ := rl_JobS h3
  simp at e3
  subst e3
  obtain ⟨z4c0, z4c1, z4c2, e4⟩ := rl_Lease h4
  simp at e4
  obtain ⟨e4_0, e4_1, e4_2⟩ := e4
  subst e4_0; subst e4_1; subst e4_2
  exact ⟨a0, a1, _, m2, _, m3, _, _, _, rfl, r2, r3⟩
theorem rl_Shot {fuel : Nat} {cs : List Value} {x : DataW H × List MemPlace} (h : DataW.trod enc Try.prog W base sp held fuel 29 cs = some x) : ∃ (c0 : Int) (c1 : Int) (c2 : Int) (s3 : Value) (l3 : List DPair) (s4 : Value) (l4 : List DJob) (c5 : Int) (c6 : Int) (c7 : Int), cs = [.int .i64 c0, .int .i64 c1, .int .i64 c2, s3, s4, .int .i64 c5, .int .i64 c6, .int .i64 c7] ∧ Ints 2 W s3 (flPair l3) ∧ Ints 5 W s4 (flJob l4) := by
  have hl := rd_len Try.underlying29 h
  rw [cc_Shot] at hl
  obtain ⟨v0, v1, v2, v3, v4, v5, v6, v7, rfl⟩ : ∃ v0 v1 v2 v3 v4 v5 v6 v7, cs = [v0, v1, v2, v3, v4, v5, v6, v7] := by match cs, hl with | [v0, v1, v2, v3, v4, v5, v6, v7], _ => exact ⟨v0, v1, v2, v3, v4, v5, v6, v7, rfl⟩
  obtain ⟨n0, y0, h0⟩ := rd_field Try.underlying29 h 0 _ rfl
  obtain ⟨n1, y1, h1⟩ := rd_field Try.underlying29 h 1 _ rfl
  simp [cc_Int64, cc_State] at h0 h1
  obtain ⟨a0, e0, _⟩ := DataW.trod_int Try.underlying2 h0
  simp at e0
  subst e0
  obtain ⟨z1c0, z1c1, z1s2, z1l2, z1s3, z1l3, z1c4, z1c5, z1c6, e1, r1_0, r1_1⟩ := rl_State h1
  simp at e1
  obtain ⟨e1_0, e1_1, e1_2, e1_3, e1_4, e1_5, e1_6⟩ := e1
  subst e1_0; subst e1_1; subst e1_2; subst e1_3; subst e1_4; subst e1_5; subst e1_6
  exact ⟨a0, _, _, _, z1l2, _, z1l3, _, _, _, rfl, r1_0, r1_1⟩
end
end Go.Proofs.Ytemhbbpbmgpcaaa
