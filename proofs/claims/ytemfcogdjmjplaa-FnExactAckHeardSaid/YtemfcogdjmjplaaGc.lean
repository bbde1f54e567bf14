/- Contracts and plain laws: Open Facts Open2 Open3. -/
import Derived.Test.YtemfcogdjmjplaaRows
import Derived.Test.YtemfcogdjmjplaaGa
import Derived.ProofKit
import Derived.OpenShut
import Derived.ChangeOld
import Derived.Deep.Slices
import Derived.JoinedOf
import Derived.Test.YtemfcogdjmjplaaGb
set_option linter.unusedSimpArgs false
set_option linter.unusedVariables false
-- Arguments opened: from the reading as data to cells and lists.
namespace Go.Proofs.Ytemfcogdjmjplaa
open Go.ChangeShapes Go.WideShapes Go.ChangeAt Go.RowKit Go.G8

theorem own : ownKnob Try.prog.godebug = none := by kernel_rfl
theorem laidOut : laidOutB Try.prog = true := by kernel_rfl

section
variable {H : Type} {enc : TypeId × Value → H} {W : World} {base : Nat} {sp : Nat → Bool} {held : Bool}

/-- One field of a struct that reads. -/
theorem rd_field {t : TypeId} {fs : Array Field} {fuel : Nat} {cs : List Value} {x : DataW H × List MemPlace} (ht : Try.prog.underlying t = some (.struct fs)) (h : DataW.trod enc Try.prog W base sp held fuel t cs = some x)
    (i : Nat) (f : Field) (hf : fs[i]? = some f) : ∃ n y, DataW.trod enc Try.prog W base sp held n f.type ((cs.drop f.offset).take (Try.prog.cellsOf f.type)) = some y := by
  obtain ⟨xs, n, _, _, _, hl, hr⟩ := DataW.trod_struct ht h
  have h1 := hr i f hf
  have hi : i < xs.length := by
    rw [hl]
    rcases Nat.lt_or_ge i fs.size with h' | h'
    · exact h'
    · rw [Array.getElem?_eq_none h'] at hf; cases hf
  rw [List.getElem?_eq_getElem hi] at h1
  exact ⟨n, _, h1⟩
theorem rd_len {t : TypeId} {fs : Array Field} {fuel : Nat} {cs : List Value} {x : DataW H × List MemPlace} (ht : Try.prog.underlying t = some (.struct fs)) (h : DataW.trod enc Try.prog W base sp held fuel t cs = some x) : cs.length = Try.prog.cellsOf t := by
  obtain ⟨xs, n, _, _, hl, _, _⟩ := DataW.trod_struct ht h
  exact hl
end
end Go.Proofs.Ytemfcogdjmjplaa

-- Facts on the whole program that every row of the seat wants, each reckoned once.
namespace Go.Proofs.Ytemfcogdjmjplaa.facts
theorem b2 {a b : Bool} (ha : a = true) (hb : b = true) : (a && b) = true := by rw [ha, hb]; rfl
theorem k1 : (laidOutB Try.checked.prog) = true := by kernel_rfl
theorem k2 : (mapsRowed Try.checked.prog) = true := by kernel_rfl
theorem k6 : ((Try.checked.prog.stops == [])) = true := by kernel_rfl
theorem k8 : ((Try.checked.prog.stopKnobs == [])) = true := by kernel_rfl
theorem k22 : ((Rows.fnExactSendsOfRow.plainKeys == Try.checked.prog.plainKeys)) = true := by kernel_rfl
theorem k24 : (Try.checked.prog.stopsHeard) = true := by kernel_rfl
theorem k25 : (Try.checked.prog.mayEnter) = true := by kernel_rfl
theorem k26 : ((Rows.fnExactSendsOfRow.lifted == Try.checked.prog.liftsFinal)) = true := by kernel_rfl
theorem k27 : ((Try.checked.prog.make == some Rows.fnExactSendsOfRow.make)) = true := by kernel_rfl
end Go.Proofs.Ytemfcogdjmjplaa.facts

-- Arguments opened: leaf by leaf.
namespace Go.Proofs.Ytemfcogdjmjplaa
open Go.ChangeShapes Go.WideShapes Go.ChangeAt Go.RowKit Go.G8

theorem cc_Int64 : Try.prog.cellsOf 2 = 1 := by kernel_rfl
theorem cc_Bool : Try.prog.cellsOf 4 = 1 := by kernel_rfl
theorem cc_Due : Try.prog.cellsOf 104 = 2 := by kernel_rfl
theorem cc_Op : Try.prog.cellsOf 28 = 5 := by kernel_rfl
theorem cc_Ack : Try.prog.cellsOf 49 = 4 := by kernel_rfl
theorem cc_DueS : Try.prog.cellsOf 22 = 1 := by kernel_rfl
theorem cc_Jobs : Try.prog.cellsOf 24 = 6 := by kernel_rfl
theorem cc_View : Try.prog.cellsOf 26 = 6 := by kernel_rfl
theorem cc_Sched : Try.prog.cellsOf 30 = 15 := by kernel_rfl
section
variable {H : Type} {enc : TypeId × Value → H} {W : World} {base : Nat} {sp : Nat → Bool} {held : Bool}

theorem rl_Due {fuel : Nat} {cs : List Value} {x : DataW H × List MemPlace} (h : DataW.trod enc Try.prog W base sp held fuel 104 cs = some x) : ∃ (c0 : Int) (c1 : Int), cs = [.int .i64 c0, .int .i64 c1] := by
  have hl := rd_len Try.underlying104 h
  rw [cc_Due] at hl
  obtain ⟨v0, v1, rfl⟩ : ∃ v0 v1, cs = [v0, v1] := by match cs, hl with | [v0, v1], _ => exact ⟨v0, v1, rfl⟩
  obtain ⟨n0, y0, h0⟩ := rd_field Try.underlying104 h 0 _ rfl
  obtain ⟨n1, y1, h1⟩ := rd_field Try.underlying104 h 1 _ rfl
  simp [cc_Int64] at h0 h1
  obtain ⟨a0, e0, _⟩ := DataW.trod_int Try.underlying2 h0
  simp at e0
  subst e0
  obtain ⟨a1, e1, _⟩ := DataW.trod_int Try.underlying2 h1
  simp at e1
  subst e1
  exact ⟨a0, a1, rfl⟩
theorem rl_Op {fuel : Nat} {cs : List Value} {x : DataW H × List MemPlace} (h : DataW.trod enc Try.prog W base sp held fuel 28 cs = some x) : ∃ (c0 : Int) (c1 : Int) (c2 : Int) (c3 : Int) (c4 : Int), cs = [.int .i64 c0, .int .i64 c1, .int .i64 c2, .int .i64 c3, .int .i64 c4] := by
  have hl := rd_len Try.underlying28 h
  rw [cc_Op] at hl
  obtain ⟨v0, v1, v2, v3, v4, rfl⟩ : ∃ v0 v1 v2 v3 v4, cs = [v0, v1, v2, v3, v4] := by match cs, hl with | [v0, v1, v2, v3, v4], _ => exact ⟨v0, v1, v2, v3, v4, rfl⟩
  obtain ⟨n0, y0, h0⟩ := rd_field Try.underlying28 h 0 _ rfl
  obtain ⟨n1, y1, h1⟩ := rd_field Try.underlying28 h 1 _ rfl
  obtain ⟨n2, y2, h2⟩ := rd_field Try.underlying28 h 2 _ rfl
  obtain ⟨n3, y3, h3⟩ := rd_field Try.underlying28 h 3 _ rfl
  obtain ⟨n4, y4, h4⟩ := rd_field Try.underlying28 h 4 _ rfl
  simp [cc_Int64] at h0 h1 h2 h3 h4
  obtain ⟨a0, e0, _⟩ := DataW.trod_int Try.underlying2 h0
  simp at e0
  subst e0
  obtain ⟨a1, e1, _⟩ := DataW.trod_int Try.underlying2 h1
  simp at e1
  subst e1
  obtain ⟨a2, e2, _⟩ := DataW.trod_int Try.underlying2 h2
  simp at e2
  subst e2
  obtain ⟨a3, e3, _⟩ := DataW.trod_int Try.underlying2 h3
  simp at e3
  subst e3
  obtain ⟨a4, e4, _⟩ := DataW.trod_int Try.underlying2 h4
  simp at e4
  subst e4
  exact ⟨a0, a1, a2, a3, a4, rfl⟩
theorem rl_Ack {fuel : Nat} {cs : List Value} {x : DataW H × List MemPlace} (h : DataW.trod enc Try.prog W base sp held fuel 49 cs = some x) : ∃ (c0 : Int) (c1 : Int) (c2 : Int) (c3 : Int), cs = [.int .i64 c0, .int .i64 c1, .int .i64 c2, .int .i64 c3] := by
  have hl := rd_len Try.underlying49 h
  rw [cc_Ack] at hl
  obtain ⟨v0, v1, v2, v3, rfl⟩ : ∃ v0 v1 v2 v3, cs = [v0, v1, v2, v3] := by match cs, hl with | [v0, v1, v2, v3], _ => exact ⟨v0, v1, v2, v3, rfl⟩
  obtain ⟨n0, y0, h0⟩ := rd_field Try.underlying49 h 0 _ rfl
  obtain ⟨n1, y1, h1⟩ := rd_field Try.underlying49 h 1 _ rfl
  obtain ⟨n2, y2, h2⟩ := rd_field Try.underlying49 h 2 _ rfl
  obtain ⟨n3, y3, h3⟩ := rd_field Try.underlying49 h 3 _ rfl
  simp [cc_Int64] at h0 h1 h2 h3
  obtain ⟨a0, e0, _⟩ := DataW.trod_int Try.underlying2 h0
  simp at e0
  subst e0
  obtain ⟨a1, e1, _⟩ := DataW.trod_int Try.underlying2 h1
  simp at e1
  subst e1
  obtain ⟨a2, e2, _⟩ := DataW.trod_int Try.underlying2 h2
  simp at e2
  subst e2
  obtain ⟨a3, e3, _⟩ := DataW.trod_int Try.underlying2 h3
  simp at e3
  subst e3
  exact ⟨a0, a1, a2, a3, rfl⟩
theorem rl_DueS {fuel : Nat} {cs : List Value} {x : DataW H × List MemPlace} (h : DataW.trod enc Try.prog W base sp held fuel 22 cs = some x) : ∃ (s : Value) (l : List DDue), cs = [s] ∧ Ints 2 W s (dues l) := by
  rcases Deep.open_slice Try.underlying22 h with ⟨rfl, _⟩ | ⟨a, len, cap, m, n, D, Pl, rfl, hb, hl, hm, hmm, _, hx⟩
  · exact ⟨_, [], rfl, Ints.nil 2 W⟩
  · have hlm : len ≤ m := by rw [hmm]; split <;> omega
    obtain ⟨l, _, hi⟩ := Ints.of_each (f := DDue.ints) (n := 2) (fun _ => rfl) (by decide) (w := W) (a := a) hl hm (fun i hi => by
      obtain ⟨cs', hc, ht⟩ := hx i (by omega)
      rw [cc_Due] at hc
      obtain ⟨b0, b1, rfl⟩ := rl_Due ht
      obtain ⟨_, _, hcell⟩ := World.cells?_some hc
      refine ⟨⟨b0, b1⟩, fun j u hu => ?_⟩
      have hj : j < 2 := by
        rcases Nat.lt_or_ge j 2 with h' | h'
        · exact h'
        · rw [List.getElem?_eq_none (by simpa [DDue.ints] using h')] at hu; cases hu
      rw [hcell j hj]
      match j, hj, hu with
      | 0, _, hu => simpa [DDue.ints] using hu
      | 1, _, hu => simpa [DDue.ints] using hu)
    exact ⟨_, l, rfl, hi⟩
theorem rl_Jobs {fuel : Nat} {cs : List Value} {x : DataW H × List MemPlace} (h : DataW.trod enc Try.prog W base sp held fuel 24 cs = some x) : ∃ (c0 : Int) (c1 : Int) (c2 : Int) (c3 : Int) (c4 : Int) (s5 : Value) (l5 : List DDue), cs = [.int .i64 c0, .int .i64 c1, .int .i64 c2, .int .i64 c3, .int .i64 c4, s5] ∧ Ints 2 W s5 (dues l5) := by
  have hl := rd_len Try.underlying24 h
  rw [cc_Jobs] at hl
  obtain ⟨v0, v1, v2, v3, v4, v5, rfl⟩ : ∃ v0 v1 v2 v3 v4 v5, cs = [v0, v1, v2, v3, v4, v5] := by match cs, hl with | [v0, v1, v2, v3, v4, v5], _ => exact ⟨v0, v1, v2, v3, v4, v5, rfl⟩
  obtain ⟨n0, y0, h0⟩ := rd_field Try.underlying24 h 0 _ rfl
  obtain ⟨n1, y1, h1⟩ := rd_field Try.underlying24 h 1 _ rfl
  obtain ⟨n2, y2, h2⟩ := rd_field Try.underlying24 h 2 _ rfl
  obtain ⟨n3, y3, h3⟩ := rd_field Try.underlying24 h 3 _ rfl
  obtain ⟨n4, y4, h4⟩ := rd_field Try.underlying24 h 4 _ rfl
  obtain ⟨n5, y5, h5⟩ := rd_field Try.underlying24 h 5 _ rfl
  simp [cc_DueS, cc_Int64] at h0 h1 h2 h3 h4 h5
  obtain ⟨a0, e0, _⟩ := DataW.trod_int Try.underlying2 h0
  simp at e0
  subst e0
  obtain ⟨a1, e1, _⟩ := DataW.trod_int Try.underlying2 h1
  simp at e1
  subst e1
  obtain ⟨a2, e2, _⟩ := DataW.trod_int Try.underlying2 h2
  simp at e2
  subst e2
  obtain ⟨a3, e3, _⟩ := DataW.trod_int Try.underlying2 h3
  simp at e3
  subst e3
  obtain ⟨a4, e4, _⟩ := DataW.trod_int Try.underlying2 h4
  simp at e4
  subst e4
  obtain ⟨a5, m5, e5, r5⟩ := rl_DueS h5
  simp at e5
  subst e5
  exact ⟨a0, a1, a2, a3, a4, _, m5, rfl, r5⟩
theorem rl_View {fuel : Nat} {cs : List Value} {x : DataW H × List MemPlace} (h : DataW.trod enc Try.prog W base sp held fuel 26 cs = some x) : ∃ (c0 : Int) (c1 : Int) (c2 : Int) (c3 : Int) (c4 : Int) (s5 : Value) (l5 : List DDue), cs = [.int .i64 c0, .int .i64 c1, .int .i64 c2, .int .i64 c3, .int .i64 c4, s5] ∧ Ints 2 W s5 (dues l5) := by
  have hl := rd_len Try.underlying26 h
  rw [cc_View] at hl
  obtain ⟨v0, v1, v2, v3, v4, v5, rfl⟩ : ∃ v0 v1 v2 v3 v4 v5, cs = [v0, v1, v2, v3, v4, v5] := by match cs, hl with | [v0, v1, v2, v3, v4, v5], _ => exact ⟨v0, v1, v2, v3, v4, v5, rfl⟩
  obtain ⟨n0, y0, h0⟩ := rd_field Try.underlying26 h 0 _ rfl
  simp [cc_Jobs] at h0
  obtain ⟨z0c0, z0c1, z0c2, z0c3, z0c4, z0s5, z0l5, e0, r0_0⟩ := rl_Jobs h0
  simp at e0
  obtain ⟨e0_0, e0_1, e0_2, e0_3, e0_4, e0_5⟩ := e0
  subst e0_0; subst e0_1; subst e0_2; subst e0_3; subst e0_4; subst e0_5
  exact ⟨_, _, _, _, _, _, z0l5, rfl, r0_0⟩
theorem rl_Sched {fuel : Nat} {cs : List Value} {x : DataW H × List MemPlace} (h : DataW.trod enc Try.prog W base sp held fuel 30 cs = some x) : ∃ (c0 : Int) (c1 : Int) (c2 : Int) (c3 : Int) (c4 : Int) (c5 : Int) (c6 : Int) (s7 : Value) (l7 : List DDue) (c8 : Bool) (c9 : Int) (c10 : Int) (c11 : Int) (c12 : Int) (c13 : Int) (c14 : Int), cs = [.int .i64 c0, .int .i64 c1, .int .i64 c2, .int .i64 c3, .int .i64 c4, .int .i64 c5, .int .i64 c6, s7, .bool c8, .int .i64 c9, .int .i64 c10, .int .i64 c11, .int .i64 c12, .int .i64 c13, .int .i64 c14] ∧ Ints 2 W s7 (dues l7) := by
  have hl := rd_len Try.underlying30 h
  rw [cc_Sched] at hl
  obtain ⟨v0, v1, v2, v3, v4, v5, v6, v7, v8, v9, v10, v11, v12, v13, v14, rfl⟩ : ∃ v0 v1 v2 v3 v4 v5 v6 v7 v8 v9 v10 v11 v12 v13 v14, cs = [v0, v1, v2, v3, v4, v5, v6, v7, v8, v9, v10, v11, v12, v13, v14] := by match cs, hl with | [v0, v1, v2, v3, v4, v5, v6, v7, v8, v9, v10, v11, v12, v13, v14], _ => exact ⟨v0, v1, v2, v3, v4, v5, v6, v7, v8, v9, v10, v11, v12, v13, v14, rfl⟩
  obtain ⟨n0, y0, h0⟩ := rd_field Try.underlying30 h 0 _ rfl
  obtain ⟨n1, y1, h1⟩ := rd_field Try.underlying30 h 1 _ rfl
  obtain ⟨n2, y2, h2⟩ := rd_field Try.underlying30 h 2 _ rfl
  obtain ⟨n3, y3, h3⟩ := rd_field Try.underlying30 h 3 _ rfl
  obtain ⟨n4, y4, h4⟩ := rd_field Try.underlying30 h 4 _ rfl
  obtain ⟨n5, y5, h5⟩ := rd_field Try.underlying30 h 5 _ rfl
  simp [cc_Bool, cc_Int64, cc_Op, cc_View] at h0 h1 h2 h3 h4 h5
  obtain ⟨a0, e0, _⟩ := DataW.trod_int Try.underlying2 h0
  simp at e0
  subst e0
  obtain ⟨a1, e1, _⟩ := DataW.trod_int Try.underlying2 h1
  simp at e1
  subst e1
  obtain ⟨z2c0, z2c1, z2c2, z2c3, z2c4, z2s5, z2l5, e2, r2_0⟩ := rl_View h2
  simp at e2
  obtain ⟨e2_0, e2_1, e2_2, e2_3, e2_4, e2_5⟩ := e2
  subst e2_0; subst e2_1; subst e2_2; subst e2_3; subst e2_4; subst e2_5
  obtain ⟨a8, e8, _⟩ := DataW.trod_bool Try.underlying4 h3
  simp at e8
  subst e8
  obtain ⟨z4c0, z4c1, z4c2, z4c3, z4c4, e9⟩ := rl_Op h4
  simp at e9
  obtain ⟨e9_0, e9_1, e9_2, e9_3, e9_4⟩ := e9
  subst e9_0; subst e9_1; subst e9_2; subst e9_3; subst e9_4
  obtain ⟨a14, e14, _⟩ := DataW.trod_int Try.underlying2 h5
  simp at e14
  subst e14
  exact ⟨a0, a1, _, _, _, _, _, _, z2l5, a8, _, _, _, _, _, a14, rfl, r2_0⟩
end
end Go.Proofs.Ytemfcogdjmjplaa

-- Arguments opened: disks.
namespace Go.G8
open Go.RowKit
theorem List.map_prod_left_eq_zip' {α : Type} (l : List (α × Value)) (f : α → NRow) : l.flatMap (fun d => ncell (f d.1, d.2)) = ((l.map (f ∘ fun x => x.1)).zip (l.map (·.2))).flatMap ncell := by
  induction l with
  | nil => rfl
  | cons x l ih => simp only [List.flatMap_cons, List.map_cons, List.zip_cons_cons, ih, Function.comp]
theorem Sl.of_each {α : Type} {f : α → List Value} {n : Nat} (hn : 0 < n) {w : World} {a : Addr} {len cap : Nat} (hl : len ≤ cap) (hm : cap ≤ maxLen) (l : List α) (hlen : l.length = len) (hf : ∀ x ∈ l, (f x).length = n)
    (hp : ∀ (i : Nat) (d : α), l[i]? = some d → ∀ j u, (f d)[j]? = some u → w.cell? ((a.add (i * n)).add j) = some u) : Sl n w (.slice (some a) len cap) (l.flatMap f) := by
  refine ⟨some a, len, cap, rfl, by rw [flatV_len f l hf, hlen], hl, hm, (fun h => by cases h), fun b off sp ha hpos => ?_⟩
  injection ha with ha
  subst ha
  have hd : 0 < l.length := by omega
  have hsp : sp = none := by
    have hm0 : (f l[0])[0]? = some ((f l[0])[0]'(by rw [hf _ (List.getElem_mem hd)]; exact hn)) := List.getElem?_eq_getElem _
    have h1 := hp 0 _ (List.getElem?_eq_getElem hd) 0 _ hm0
    have e0 : ((⟨b, off, sp⟩ : Addr).add (0 * n)).add 0 = ⟨b, off, sp⟩ := by unfold Addr.add; simp
    rw [e0] at h1
    cases sp with
    | none => rfl
    | some s => unfold World.cell? at h1; split at h1 <;> simp at h1
  subst hsp
  have hcell : ∀ i u, (l.flatMap f)[i]? = some u → w.cell? ⟨b, off + i, none⟩ = some u := by
    intro i u hu
    have hi : i < l.length * n := by
      rw [← flatV_len f l hf]
      exact (List.getElem?_eq_some_iff.1 hu).1
    have hd : i / n < l.length := Nat.div_lt_of_lt_mul (by rw [Nat.mul_comm]; exact hi)
    have hmod : i % n < n := Nat.mod_lt _ hn
    have he : i / n * n + i % n = i := by rw [Nat.mul_comm]; exact Nat.div_add_mod i n
    have hg := flatV_get f l hf (i / n) (i % n) l[i / n] (List.getElem?_eq_getElem hd) hmod
    rw [he, hu] at hg
    have := hp (i / n) _ (List.getElem?_eq_getElem hd) (i % n) u hg.symm
    rw [add_lit0, add_lit0, Nat.add_assoc, he] at this
    exact this
  have h0 : 0 < (l.flatMap f).length := by rw [flatV_len f l hf]; exact Nat.mul_pos hd hn
  exact ⟨rfl, World.block_lt_of_cell? w _ (hcell 0 _ (List.getElem?_eq_getElem h0)), hcell⟩
/-- From the cells of each element to rows. -/
theorem Nest.of_each {α : Type} {f : α → NRow} {n : Nat} (hf : ∀ x, (f x).1.length = n) {w : World} {a : Addr} {len cap : Nat} (hl : len ≤ cap) (hm : cap ≤ maxLen)
    (h : ∀ i, i < len → ∃ (d : α) (s : Value), (∀ j u, (ncell (f d, s))[j]? = some u → w.cell? ((a.add (i * (n + 1))).add j) = some u) ∧ Ints 1 w s (f d).2) : ∃ l : List α, l.length = len ∧ Nest n w (.slice (some a) len cap) (l.map f) := by
  obtain ⟨l, hlen, hp⟩ := choose_list (α := α × Value) (p := fun i d => (∀ j u, (ncell (f d.1, d.2))[j]? = some u → w.cell? ((a.add (i * (n + 1))).add j) = some u) ∧ Ints 1 w d.2 (f d.1).2) len (fun i hi => by
    obtain ⟨d, s, h1⟩ := h i hi
    exact ⟨(d, s), h1⟩)
  refine ⟨l.map (·.1), by simp [hlen], ?_, l.map (·.2), by simp, ?_, fun i s r h1 h2 => ?_⟩
  · intro r hr
    simp only [List.mem_map] at hr
    obtain ⟨x, ⟨y, _, rfl⟩, rfl⟩ := hr
    exact hf _
  · have e : ncells ((l.map (·.1)).map f) (l.map (·.2)) = l.flatMap (fun d => ncell (f d.1, d.2)) := by
      unfold ncells
      rw [List.map_map, ← List.map_prod_left_eq_zip' l f]
    rw [e]
    exact Sl.of_each (by omega) hl hm l hlen (fun x _ => by simp [ncell, hf]) (fun i d hd => (hp i d hd).1)
  · simp only [List.getElem?_map, Option.map_eq_some_iff] at h1 h2
    obtain ⟨x, hx, rfl⟩ := h1
    obtain ⟨y, ⟨z, hz, rfl⟩, rfl⟩ := h2
    rw [hx] at hz; injection hz with hz; subst hz
    exact (hp i x hx).2
end Go.G8
namespace Go.Proofs.Ytemfcogdjmjplaa
open Go.ChangeShapes Go.WideShapes Go.ChangeAt Go.RowKit Go.G8

section
variable {H : Type} {enc : TypeId × Value → H} {W : World} {base : Nat} {sp : Nat → Bool} {held : Bool}

end
end Go.Proofs.Ytemfcogdjmjplaa
