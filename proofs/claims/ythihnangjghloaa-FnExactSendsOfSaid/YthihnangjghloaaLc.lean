/- Contracts and plain laws: Open Facts Open2. -/
import Derived.Test.YthihnangjghloaaRows
import Derived.Test.YthihnangjghloaaLa
import Derived.ProofKit
import Derived.OpenShut
import Derived.ChangeOld
import Derived.Deep.Slices
import Derived.JoinedOf
set_option linter.unusedSimpArgs false
set_option linter.unusedVariables false
-- Arguments opened: from the reading as data to cells and lists.
namespace Go.Proofs.Ythihnangjghloaa
open Go.ChangeShapes Go.WideShapes Go.ChangeAt Go.RowKit Go.G8

theorem own : ownKnob Try.prog.godebug = none := by kernel_rfl
theorem laidOut : laidOutB Try.prog = true := by kernel_rfl

section
variable {H : Type} {enc : TypeId × Value → H} {W : World} {base : Nat} {sp : Nat → Bool} {held : Bool}

/-- One field of a struct that reads. -/
theorem rd_field {t : TypeId} {fs : Array Field} {fuel : Nat} {cs : List Value} {x : DataW H × List MemPlace} (ht : Try.prog.underlying t = some (.struct fs)) (h : DataW.trod enc Try.prog W base sp held fuel t cs = some x)
  (i : Nat) (f : Field) (hf : fs[i]? = some f) : ∃ n y, DataW.trod enc Try.prog W base sp held n f.type ((cs.drop f.offset).take (Try.prog.cellsOf f.type)) = some y := by
 obtain ⟨xs, n, _, _, _, hl, hr⟩ := DataW.trod_struct ht h
 have h1 := hr i f hf
 have hi : i < xs.length := by
  rw [hl]
  rcases Nat.lt_or_ge i fs.size with h' | h'
  ·
   exact h'
  ·
   rw [Array.getElem?_eq_none h'] at hf; cases hf
 rw [List.getElem?_eq_getElem hi] at h1
 exact ⟨n, _, h1⟩
theorem rd_len {t : TypeId} {fs : Array Field} {fuel : Nat} {cs : List Value} {x : DataW H × List MemPlace} (ht : Try.prog.underlying t = some (.struct fs)) (h : DataW.trod enc Try.prog W base sp held fuel t cs = some x) : cs.length = Try.prog.cellsOf t := by
 obtain ⟨xs, n, _, _, hl, _, _⟩ := DataW.trod_struct ht h
 exact hl
end
end Go.Proofs.Ythihnangjghloaa

-- Facts on the whole program that every row of the seat wants, each reckoned once.
namespace Go.Proofs.Ythihnangjghloaa.facts
theorem b2 {a b : Bool} (ha : a = true) (hb : b = true) : (a && b) = true := by rw [ha, hb]; rfl
theorem k1 : (laidOutB Try.checked.prog) = true := by kernel_rfl
theorem k2 : (mapsRowed Try.checked.prog) = true := by kernel_rfl
theorem k6 : ((Try.checked.prog.stops == [])) = true := by kernel_rfl
theorem k8 : ((Try.checked.prog.stopKnobs == [])) = true := by kernel_rfl
theorem k22 : ((Rows.fnViewLatestRow.plainKeys == Try.checked.prog.plainKeys)) = true := by kernel_rfl
theorem k24 : (Try.checked.prog.stopsHeard) = true := by kernel_rfl
theorem k25 : (Try.checked.prog.mayEnter) = true := by kernel_rfl
theorem k26 : ((Rows.fnViewLatestRow.lifted == Try.checked.prog.liftsFinal)) = true := by kernel_rfl
theorem k27 : ((Try.checked.prog.make == some Rows.fnViewLatestRow.make)) = true := by kernel_rfl
end Go.Proofs.Ythihnangjghloaa.facts

-- Arguments opened: leaf by leaf.
namespace Go.Proofs.Ythihnangjghloaa
open Go.ChangeShapes Go.WideShapes Go.ChangeAt Go.RowKit Go.G8

theorem cc_Int64 : Try.prog.cellsOf 2 = 1 := by kernel_rfl
theorem cc_Bool : Try.prog.cellsOf 4 = 1 := by kernel_rfl
theorem cc_Due : Try.prog.cellsOf 204 = 2 := by kernel_rfl
theorem cc_Op : Try.prog.cellsOf 59 = 5 := by kernel_rfl
theorem cc_DueS : Try.prog.cellsOf 53 = 1 := by kernel_rfl
theorem cc_Jobs : Try.prog.cellsOf 55 = 6 := by kernel_rfl
theorem cc_View : Try.prog.cellsOf 57 = 6 := by kernel_rfl
theorem cc_Sched : Try.prog.cellsOf 61 = 15 := by kernel_rfl
section
variable {H : Type} {enc : TypeId × Value → H} {W : World} {base : Nat} {sp : Nat → Bool} {held : Bool}

theorem rl_Due {fuel : Nat} {cs : List Value} {x : DataW H × List MemPlace} (h : DataW.trod enc Try.prog W base sp held fuel 204 cs = some x) : ∃ (c0 : Int) (c1 : Int), cs = [.int .i64 c0, .int .i64 c1] := by
 have hl := rd_len Try.underlying204 h
 rw [cc_Due] at hl
 obtain ⟨v0, v1, rfl⟩ : ∃ v0 v1, cs = [v0, v1] := by match cs, hl with | [v0, v1], _ => exact ⟨v0, v1, rfl⟩
 obtain ⟨n0, y0, h0⟩ := rd_field Try.underlying204 h 0 _ rfl
 obtain ⟨n1, y1, h1⟩ := rd_field Try.underlying204 h 1 _ rfl
 simp [cc_Int64] at h0 h1
 obtain ⟨a0, e0, _⟩ := DataW.trod_int Try.underlying2 h0
 simp at e0
 subst e0
 obtain ⟨a1, e1, _⟩ := DataW.trod_int Try.underlying2 h1
 simp at e1
 subst e1
 exact ⟨a0, a1, rfl⟩
theorem rl_Op {fuel : Nat} {cs : List Value} {x : DataW H × List MemPlace} (h : DataW.trod enc Try.prog W base sp held fuel 59 cs = some x) : ∃ (c0 : Int) (c1 : Int) (c2 : Int) (c3 : Int) (c4 : Int), cs = [.int .i64 c0, .int .i64 c1, .int .i64 c2, .int .i64 c3, .int .i64 c4] := by
 have hl := rd_len Try.underlying59 h
 rw [cc_Op] at hl
 obtain ⟨v0, v1, v2, v3, v4, rfl⟩ : ∃ v0 v1 v2 v3 v4, cs = [v0, v1, v2, v3, v4] := by match cs, hl with | [v0, v1, v2, v3, v4], _ => exact ⟨v0, v1, v2, v3, v4, rfl⟩
 obtain ⟨n0, y0, h0⟩ := rd_field Try.underlying59 h 0 _ rfl
 obtain ⟨n1, y1, h1⟩ := rd_field Try.underlying59 h 1 _ rfl
 obtain ⟨n2, y2, h2⟩ := rd_field Try.underlying59 h 2 _ rfl
 obtain ⟨n3, y3, h3⟩ := rd_field Try.underlying59 h 3 _ rfl
 obtain ⟨n4, y4, h4⟩ := rd_field Try.underlying59 h 4 _ rfl
 simp [cc_Int64] at h0 h1 h2 h3 h4
 obtain ⟨a0, e0, _⟩ := DataW.trod_int Try.underlying2 h0
 simp at e0
 subst e0
 obtain ⟨a1, e1, _⟩ := DataW.trod_int Try.underlying2 h1
 simp at e1
 subst e1
 obtain ⟨a2, e2, _⟩ := DataW.trod_int Try.underlying2 h2
 simp at e2
 subst e2
 obtain ⟨a3, e3, _⟩ := DataW.trod_int Try.underlying2 h3
 simp at e3
 subst e3
 obtain ⟨a4, e4, _⟩ := DataW.trod_int Try.underlying2 h4
 simp at e4
 subst e4
 exact ⟨a0, a1, a2, a3, a4, rfl⟩
theorem rl_DueS {fuel : Nat} {cs : List Value} {x : DataW H × List MemPlace} (h : DataW.trod enc Try.prog W base sp held fuel 53 cs = some x) : ∃ (s : Value) (l : List DDue), cs = [s] ∧ Ints 2 W s (dues l) := by
 rcases Deep.open_slice Try.underlying53 h with ⟨rfl, _⟩ | ⟨a, len, cap, m, n, D, Pl, rfl, hb, hl, hm, hmm, _, hx⟩
 ·
  exact ⟨_, [], rfl, Ints.nil 2 W⟩
 ·
  have hlm : len ≤ m := by rw [hmm]; split <;> omega
  obtain ⟨l, _, hi⟩ := Ints.of_each (f := DDue.ints) (n := 2) (fun _ => rfl) (by decide) (w := W) (a := a) hl hm (fun i hi => by
   obtain ⟨cs', hc, ht⟩ := hx i (by omega)
   rw [cc_Due] at hc
   obtain ⟨b0, b1, rfl⟩ := rl_Due ht
   obtain ⟨_, _, hcell⟩ := World.cells?_some hc
   refine ⟨⟨b0, b1⟩, fun j u hu => ?_⟩
   have hj : j < 2 := by
    rcases Nat.lt_or_ge j 2 with h' | h'
    ·
     exact h'
    ·
     rw [List.getElem?_eq_none (by simpa [DDue.ints] using h')] at hu; cases hu
   rw [hcell j hj]
   match j, hj, hu with
   | 0, _, hu => simpa [DDue.ints] using hu
   | 1, _, hu => simpa [DDue.ints] using hu)
  exact ⟨_, l, rfl, hi⟩
theorem rl_Jobs {fuel : Nat} {cs : List Value} {x : DataW H × List MemPlace} (h : DataW.trod enc Try.prog W base sp held fuel 55 cs = some x) : ∃ (c0 : Int) (c1 : Int) (c2 : Int) (c3 : Int) (c4 : Int) (s5 : Value) (l5 : List DDue), cs = [.int .i64 c0, .int .i64 c1, .int .i64 c2, .int .i64 c3, .int .i64 c4, s5] ∧ Ints 2 W s5 (dues l5) := by
 have hl := rd_len Try.underlying55 h
 rw [cc_Jobs] at hl
 obtain ⟨v0, v1, v2, v3, v4, v5, rfl⟩ : ∃ v0 v1 v2 v3 v4 v5, cs = [v0, v1, v2, v3, v4, v5] := by match cs, hl with | [v0, v1, v2, v3, v4, v5], _ => exact ⟨v0, v1, v2, v3, v4, v5, rfl⟩
 obtain ⟨n0, y0, h0⟩ := rd_field Try.underlying55 h 0 _ rfl
 obtain ⟨n1, y1, h1⟩ := rd_field Try.underlying55 h 1 _ rfl
 obtain ⟨n2, y2, h2⟩ := rd_field Try.underlying55 h 2 _ rfl
 obtain ⟨n3, y3, h3⟩ := rd_field Try.underlying55 h 3 _ rfl
 obtain ⟨n4, y4, h4⟩ := rd_field Try.underlying55 h 4 _ rfl
 obtain ⟨n5, y5, h5⟩ := rd_field Try.underlying55 h 5 _ rfl
 simp [cc_DueS, cc_Int64] at h0 h1 h2 h3 h4 h5
 obtain ⟨a0, e0, _⟩ := DataW.trod_int Try.underlying2 h0
 simp at e0
 subst e0
 obtain ⟨a1, e1, _⟩ := DataW.trod_int Try.underlying2 h1
 simp at e1
 subst e1
 obtain ⟨a2, e2, _⟩ := DataW.trod_int Try.underlying2 h2
 simp at e2
 subst e2
 obtain ⟨a3, e3, _⟩ := DataW.trod_int Try.underlying2 h3
 simp at e3
 subst e3
 obtain ⟨a4, e4, _⟩ := DataW.trod_int Try.underlying2 h4
 simp at e4
 subst e4
 obtain ⟨a5, m5, e5, r5⟩ := rl_DueS h5
 simp at e5
 subst e5
 exact ⟨a0, a1, a2, a3, a4, _, m5, rfl, r5⟩
theorem rl_View {fuel : Nat} {cs : List Value} {x : DataW H × List MemPlace} (h : DataW.trod enc Try.prog W base sp held fuel 57 cs = some x) : ∃ (c0 : Int) (c1 : Int) (c2 : Int) (c3 : Int) (c4 : Int) (s5 : Value) (l5 : List DDue), cs = [.int .i64 c0, .int .i64 c1, .int .i64 c2, .int .i64 c3, .int .i64 c4, s5] ∧ Ints 2 W s5 (dues l5) := by
 have hl := rd_len Try.underlying57 h
 rw [cc_View] at hl
 obtain ⟨v0, v1, v2, v3, v4, v5, rfl⟩ : ∃ v0 v1 v2 v3 v4 v5, cs = [v0, v1, v2, v3, v4, v5] := by match cs, hl with | [v0, v1, v2, v3, v4, v5], _ => exact ⟨v0, v1, v2, v3, v4, v5, rfl⟩
 obtain ⟨n0, y0, h0⟩ := rd_field Try.underlying57 h 0 _ rfl
 simp [cc_Jobs] at h0
 obtain ⟨z0c0, z0c1, z0c2, z0c3, z0c4, z0s5, z0l5, e0, r0_0⟩ := rl_Jobs h0
 simp at e0
 obtain ⟨e0_0, e0_1, e0_2, e0_3, e0_4, e0_5⟩ := e0
 subst e0_0; subst e0_1; subst e0_2; subst e0_3; subst e0_4; subst e0_5
 exact ⟨_, _, _, _, _, _, z0l5, rfl, r0_0⟩
theorem rl_Sched {fuel : Nat} {cs : List Value} {x : DataW H × List MemPlace} (h : DataW.trod enc Try.prog W base sp held fuel 61 cs = some x) : ∃ (c0 : Int) (c1 : Int) (c2 : Int) (c3 : Int) (c4 : Int) (c5 : Int) (c6 : Int) (s7 : Value) (l7 : List DDue) (c8 : Bool) (c9 : Int) (c10 : Int) (c11 : Int) (c12 : Int) (c13 : Int) (c14 : Int), cs = [.int .i64 c0, .int .i64 c1, .int .i64 c2, .int .i64 c3, .int .i64 c4, .int .i64 c5, .int .i64 c6, s7, .bool c8, .int .i64 c9, .int .i64 c10, .int .i64 c11, .int .i64 c12, .int .i64 c13, .int .i64 c14] ∧ Ints 2 W s7 (dues l7) := by
 have hl := rd_len Try.underlying61 h
 rw [cc_Sched] at hl
 obtain ⟨v0, v1, v2, v3, v4, v5, v6, v7, v8, v9, v10, v11, v12, v13, v14, rfl⟩ : ∃ v0 v1 v2 v3 v4 v5 v6 v7 v8 v9 v10 v11 v12 v13 v14, cs = [v0, v1, v2, v3, v4, v5, v6, v7, v8, v9, v10, v11, v12, v13, v14] := by match cs, hl with | [v0, v1, v2, v3, v4, v5, v6, v7, v8, v9, v10, v11, v12, v13, v14], _ => exact ⟨v0, v1, v2, v3, v4, v5, v6, v7, v8, v9, v10, v11, v12, v13, v14, rfl⟩
 obtain ⟨n0, y0, h0⟩ := rd_field Try.underlying61 h 0 _ rfl
 obtain ⟨n1, y1, h1⟩ := rd_field Try.underlying61 h 1 _ rfl
 obtain ⟨n2, y2, h2⟩ := rd_field Try.underlying61 h 2 _ rfl
 obtain ⟨n3, y3, h3⟩ := rd_field Try.underlying61 h 3 _ rfl
 obtain ⟨n4, y4, h4⟩ := rd_field Try.underlying61 h 4 _ rfl
 obtain ⟨n5, y5, h5⟩ := rd_field Try.underlying61 h 5 _ rfl
 simp [cc_Bool, cc_Int64, cc_Op, cc_View] at h0 h1 h2 h3 h4 h5
 obtain ⟨a0, e0, _⟩ := DataW.trod_int Try.underlying2 h0
 simp at e0
 subst e0
 obtain ⟨a1, e1, _⟩ := DataW.trod_int Try.underlying2 h1
 simp at e1
 subst e1
 obtain ⟨z2c0, z2c1, z2c2, z2c3, z2c4, z2s5, z2l5, e2, r2_0⟩ := rl_View h2
 simp at e2
 obtain ⟨e2_0, e2_1, e2_2, e2_3, e2_4, e2_5⟩ := e2
 subst e2_0; subst e2_1; subst e2_2; subst e2_3; subst e2_4; subst e2_5
 obtain ⟨a8, e8, _⟩ := DataW.trod_bool Try.underlying4 h3
 simp at e8
 subst e8
 obtain ⟨z4c0, z4c1, z4c2, z4c3, z4c4, e9⟩ := rl_Op h4
 simp at e9
 obtain ⟨e9_0, e9_1, e9_2, e9_3, e9_4⟩ := e9
 subst e9_0; subst e9_1; subst e9_2; subst e9_3; subst e9_4
 obtain ⟨a14, e14, _⟩ := DataW.trod_int Try.underlying2 h5
 simp at e14
 subst e14
 exact ⟨a0, a1, _, _, _, _, _, _, z2l5, a8, _, _, _, _, _, a14, rfl, r2_0⟩
end
end Go.Proofs.Ythihnangjghloaa
