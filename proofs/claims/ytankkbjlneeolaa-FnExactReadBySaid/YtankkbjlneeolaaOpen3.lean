/- Arguments opened: disks. -/
import Derived.Test.YtankkbjlneeolaaOpen2
import Derived.Test.YtankkbjlneeolaaS1
namespace Go.G8
open Go.RowKit
theorem List.map_prod_left_eq_zip' {α : Type} (l : List (α × Value)) (f : α → NRow) : l.flatMap (fun d => ncell (f d.1, d.2)) = ((l.map (f ∘ fun x => x.1)).zip (l.map (·.2))).flatMap ncell := by
  induction l with
  | nil => rfl
  | cons x l ih => simp only [List.flatMap_cons, List.map_cons, List.zip_cons_cons, ih, Function.comp]
theorem Sl.of_each {α : Type} {f : α → List Value} {n : Nat} (hn : 0 < n) {w : World} {a : Addr} {len cap : Nat} (hl : len ≤ cap) (hm : cap ≤ maxLen) (l : List α) (hlen : l.length = len) (hf : ∀ x ∈ l, (f x).length = n)
    (hp : ∀ (i : Nat) (d : α), l[i]? = some d → ∀ j u, (f d)[j]? = some u → w.cell? ((a.add (i * n)).add j) = some u) : Sl n w (.slice (some a) len cap) (l.flatMap f) := by
  refine ⟨some a, len, cap, rfl, by rw [flatV_len f l hf, hlen], hl, hm, (fun h => by cases h), fun b off sp ha hpos => ?_⟩
  injection ha with ha
  subst ha
  have hd : 0 < l.length := by omega
  have hsp : sp = none := by
    have hm0 : (f l[0])[0]? = some ((f l[0])[0]'(by rw [hf _ (List.getElem_mem hd)]; exact hn)) := List.getElem?_eq_getElem _
    have h1 := hp 0 _ (List.getElem?_eq_getElem hd) 0 _ hm0
    have e0 : ((⟨b, off, sp⟩ : Addr).add (0 * n)).add 0 = ⟨b, off, sp⟩ := by unfold Addr.add; simp
    rw [e0] at h1
    cases sp with
    | none => rfl
    | some s => unfold World.cell? at h1; split at h1 <;> simp at h1
  subst hsp
  have hcell : ∀ i u, (l.flatMap f)[i]? = some u → w.cell? ⟨b, off + i, none⟩ = some u := by
    intro i u hu
    have hi : i < l.length * n := by
      rw [← flatV_len f l hf]
      exact (List.getElem?_eq_some_iff.1 hu).1
    have hd : i / n < l.length := Nat.div_lt_of_lt_mul (by rw [Nat.mul_comm]; exact hi)
    have hmod : i % n < n := Nat.mod_lt _ hn
    have he : i / n * n + i % n = i := by rw [Nat.mul_comm]; exact Nat.div_add_mod i n
    have hg := flatV_get f l hf (i / n) (i % n) l[i / n] (List.getElem?_eq_getElem hd) hmod
    rw [he, hu] at hg
    have := hp (i / n) _ (List.getElem?_eq_getElem hd) (i % n) u hg.symm
    rw [add_lit0, add_lit0, Nat.add_assoc, he] at this
    exact this
  have h0 : 0 < (l.flatMap f).length := by rw [flatV_len f l hf]; exact Nat.mul_pos hd hn
  exact ⟨rfl, World.block_lt_of_cell? w _ (hcell 0 _ (List.getElem?_eq_getElem h0)), hcell⟩
/-- From the cells of each element to rows. -/
theorem Nest.of_each {α : Type} {f : α → NRow} {n : Nat} (hf : ∀ x, (f x).1.length = n) {w : World} {a : Addr} {len cap : Nat} (hl : len ≤ cap) (hm : cap ≤ maxLen)
    (h : ∀ i, i < len → ∃ (d : α) (s : Value), (∀ j u, (ncell (f d, s))[j]? = some u → w.cell? ((a.add (i * (n + 1))).add j) = some u) ∧ Ints 1 w s (f d).2) : ∃ l : List α, l.length = len ∧ Nest n w (.slice (some a) len cap) (l.map f) := by
  obtain ⟨l, hlen, hp⟩ := choose_list (α := α × Value) (p := fun i d => (∀ j u, (ncell (f d.1, d.2))[j]? = some u → w.cell? ((a.add (i * (n + 1))).add j) = some u) ∧ Ints 1 w d.2 (f d.1).2) len (fun i hi => by
    obtain ⟨d, s, h1⟩ := h i hi
    exact ⟨(d, s), h1⟩)
  refine ⟨l.map (·.1), by simp [hlen], ?_, l.map (·.2), by simp, ?_, fun i s r h1 h2 => ?_⟩
  · intro r hr
    simp only [List.mem_map] at hr
    obtain ⟨x, ⟨y, _, rfl⟩, rfl⟩ := hr
    exact hf _
  · have e : ncells ((l.map (·.1)).map f) (l.map (·.2)) = l.flatMap (fun d => ncell (f d.1, d.2)) := by
      unfold ncells
      rw [List.map_map, ← List.map_prod_left_eq_zip' l f]
    rw [e]
    exact Sl.of_each (by omega) hl hm l hlen (fun x _ => by simp [ncell, hf]) (fun i d hd => (hp i d hd).1)
  · simp only [List.getElem?_map, Option.map_eq_some_iff] at h1 h2
    obtain ⟨x, hx, rfl⟩ := h1
    obtain ⟨y, ⟨z, hz, rfl⟩, rfl⟩ := h2
    rw [hx] at hz; injection hz with hz; subst hz
    exact (hp i x hx).2
end Go.G8
namespace Go.Proofs.Ytankkbjlneeolaa
open Go.ChangeShapes Go.WideShapes Go.ChangeAt Go.RowKit Go.G8

theorem cc_Int64SS : Try.prog.cellsOf 22 = 1 := by kernel_rfl
theorem cc_WriteS : Try.prog.cellsOf 23 = 1 := by kernel_rfl
theorem cc_Write : Try.prog.cellsOf 115 = 2 := by kernel_rfl
theorem cc_Disk : Try.prog.cellsOf 25 = 2 := by kernel_rfl
theorem cc_Store : Try.prog.cellsOf 33 = 12 := by kernel_rfl
section
variable {H : Type} {enc : TypeId × Value → H} {W : World} {base : Nat} {sp : Nat → Bool} {held : Bool}

theorem rl_Write {fuel : Nat} {cs : List Value} {x : DataW H × List MemPlace} (h : DataW.trod enc Try.prog W base sp held fuel 115 cs = some x) : ∃ (c0 : Int) (s1 : Value) (l1 : List Int), cs = [.int .i64 c0, s1] ∧ Ints 1 W s1 l1 := by
  have hl := rd_len Try.underlying115 h
  rw [cc_Write] at hl
  obtain ⟨v0, v1, rfl⟩ : ∃ v0 v1, cs = [v0, v1] := by match cs, hl with | [v0, v1], _ => exact ⟨v0, v1, rfl⟩
  obtain ⟨n0, y0, h0⟩ := rd_field Try.underlying115 h 0 _ rfl
  obtain ⟨n1, y1, h1⟩ := rd_field Try.underlying115 h 1 _ rfl
  simp [cc_Int64, cc_Int64S] at h0 h1
  obtain ⟨a0, e0, _⟩ := DataW.trod_int Try.underlying2 h0
  simp at e0
  subst e0
  obtain ⟨a1, m1, e1, r1⟩ := rl_Int64S h1
  simp at e1
  subst e1
  exact ⟨a0, _, m1, rfl, r1⟩
theorem rl_Int64SS {fuel : Nat} {cs : List Value} {x : DataW H × List MemPlace} (h : DataW.trod enc Try.prog W base sp held fuel 22 cs = some x) : ∃ (s : Value) (l : List (List Int)), cs = [s] ∧ Nest 0 W s (nestInt64S l) := by
  rcases Deep.open_slice Try.underlying22 h with ⟨rfl, _⟩ | ⟨a, len, cap, m, n, D, Pl, rfl, hb, hl, hm, hmm, _, hx⟩
  · exact ⟨_, [], rfl, Nest.nil 0 W⟩
  · have hlm : len ≤ m := by rw [hmm]; split <;> omega
    obtain ⟨l, _, hi⟩ := Nest.of_each (f := fun r : List Int => (([], r) : NRow)) (n := 0) (fun _ => rfl) (w := W) (a := a) hl hm (fun i hi => by
      obtain ⟨cs', hc, ht⟩ := hx i (by omega)
      rw [cc_Int64S] at hc
      obtain ⟨s, d, rfl, hd⟩ := rl_Int64S ht
      obtain ⟨_, _, hcell⟩ := World.cells?_some hc
      refine ⟨d, s, fun j u hu => ?_, hd⟩
      have hj : j < 1 := by simpa [ncell] using (List.getElem?_eq_some_iff.1 hu).1
      rw [hcell j hj]
      obtain rfl : j = 0 := by omega
      simpa [ncell] using hu)
    exact ⟨_, l, rfl, hi⟩
theorem rl_WriteS {fuel : Nat} {cs : List Value} {x : DataW H × List MemPlace} (h : DataW.trod enc Try.prog W base sp held fuel 23 cs = some x) : ∃ (s : Value) (l : List DWrite), cs = [s] ∧ Nest 1 W s (nestWrite l) := by
  rcases Deep.open_slice Try.underlying23 h with ⟨rfl, _⟩ | ⟨a, len, cap, m, n, D, Pl, rfl, hb, hl, hm, hmm, _, hx⟩
  · exact ⟨_, [], rfl, Nest.nil 1 W⟩
  · have hlm : len ≤ m := by rw [hmm]; split <;> omega
    obtain ⟨l, _, hi⟩ := Nest.of_each (f := fun d : DWrite => (([d.At], d.Row) : NRow)) (n := 1) (fun _ => rfl) (w := W) (a := a) hl hm (fun i hi => by
      obtain ⟨cs', hc, ht⟩ := hx i (by omega)
      rw [cc_Write] at hc
      obtain ⟨c0, s, d, rfl, hd⟩ := rl_Write ht
      obtain ⟨_, _, hcell⟩ := World.cells?_some hc
      refine ⟨⟨c0, d⟩, s, fun j u hu => ?_, hd⟩
      have hj : j < 2 := by simpa [ncell] using (List.getElem?_eq_some_iff.1 hu).1
      rw [hcell j hj]
      match j, hj, hu with
      | 0, _, hu => simpa [ncell] using hu
      | 1, _, hu => simpa [ncell] using hu)
    exact ⟨_, l, rfl, hi⟩
theorem rl_Disk {fuel : Nat} {cs : List Value} {x : DataW H × List MemPlace} (h : DataW.trod enc Try.prog W base sp held fuel 25 cs = some x) : ∃ (s0 : Value) (l0 : List (List Int)) (s1 : Value) (l1 : List DWrite), cs = [s0, s1] ∧ Nest 0 W s0 (nestInt64S l0) ∧ Nest 1 W s1 (nestWrite l1) := by
  have hl := rd_len Try.underlying25 h
  rw [cc_Disk] at hl
  obtain ⟨v0, v1, rfl⟩ : ∃ v0 v1, cs = [v0, v1] := by match cs, hl with | [v0, v1], _ => exact ⟨v0, v1, rfl⟩
  obtain ⟨n0, y0, h0⟩ := rd_field Try.underlying25 h 0 _ rfl
  obtain ⟨n1, y1, h1⟩ := rd_field Try.underlying25 h 1 _ rfl
  simp [cc_Int64SS, cc_WriteS] at h0 h1
  obtain ⟨a0, m0, e0, r0⟩ := rl_Int64SS h0
  simp at e0
  subst e0
  obtain ⟨a1, m1, e1, r1⟩ := rl_WriteS h1
  simp at e1
  subst e1
  exact ⟨_, m0, _, m1, rfl, r0, r1⟩
theorem rl_Store {fuel : Nat} {cs : List Value} {x : DataW H × List MemPlace} (h : DataW.trod enc Try.prog W base sp held fuel 33 cs = some x) : ∃ (s0 : Value) (l0 : List (List Int)) (s1 : Value) (l1 : List DWrite) (c2 : Int) (c3 : Int) (s4 : Value) (l4 : List DPair) (s5 : Value) (l5 : List DJob) (c6 : Int) (c7 : Int) (c8 : Int) (c9 : Int) (c10 : Int) (c11 : Int), cs = [s0, s1, .int .i64 c2, .int .i64 c3, s4, s5, .int .i64 c6, .int .i64 c7, .int .i64 c8, .int .i64 c9, .int .i64 c10, .int .i64 c11] ∧ Nest 0 W s0 (nestInt64S l0) ∧ Nest 1 W s1 (nestWrite l1) ∧ Ints 2 W s4 (flPair l4) ∧ Ints 5 W s5 (flJob l5) := by
  have hl := rd_len Try.underlying33 h
  rw [cc_Store] at hl
  obtain ⟨v0, v1, v2, v3, v4, v5, v6, v7, v8, v9, v10, v11, rfl⟩ : ∃ v0 v1 v2 v3 v4 v5 v6 v7 v8 v9 v10 v11, cs = [v0, v1, v2, v3, v4, v5, v6, v7, v8, v9, v10, v11] := by match cs, hl with | [v0, v1, v2, v3, v4, v5, v6, v7, v8, v9, v10, v11], _ => exact ⟨v0, v1, v2, v3, v4, v5, v6, v7, v8, v9, v10, v11, rfl⟩
  obtain ⟨n0, y0, h0⟩ := rd_field Try.underlying33 h 0 _ rfl
  obtain ⟨n1, y1, h1⟩ := rd_field Try.underlying33 h 1 _ rfl
  obtain ⟨n2, y2, h2⟩ := rd_field Try.underlying33 h 2 _ rfl
  obtain ⟨n3, y3, h3⟩ := rd_field Try.underlying33 h 3 _ rfl
  obtain ⟨n4, y4, h4⟩ := rd_field Try.underlying33 h 4 _ rfl
  simp [cc_Disk, cc_Int64, cc_State] at h0 h1 h2 h3 h4
  obtain ⟨z0s0, z0l0, z0s1, z0l1, e0, r0_0, r0_1⟩ := rl_Disk h0
  simp at e0
  obtain ⟨e0_0, e0_1⟩ := e0
  subst e0_0; subst e0_1
  obtain ⟨z1c0, z1c1, z1s2, z1l2, z1s3, z1l3, z1c4, z1c5, z1c6, e2, r1_0, r1_1⟩ := rl_State h1
  simp at e2
  obtain ⟨e2_0, e2_1, e2_2, e2_3, e2_4, e2_5, e2_6⟩ := e2
  subst e2_0; subst e2_1; subst e2_2; subst e2_3; subst e2_4; subst e2_5; subst e2_6
  obtain ⟨a9, e9, _⟩ := DataW.trod_int Try.underlying2 h2
  simp at e9
  subst e9
  obtain ⟨a10, e10, _⟩ := DataW.trod_int Try.underlying2 h3
  simp at e10
  subst e10
  obtain ⟨a11, e11, _⟩ := DataW.trod_int Try.underlying2 h4
  simp at e11
  subst e11
  exact ⟨_, z0l0, _, z0l1, _, _, _, z1l2, _, z1l3, _, _, _, a9, a10, a11, rfl, r0_0, r0_1, r1_0, r1_1⟩
end
end Go.Proofs.Ytankkbjlneeolaa
