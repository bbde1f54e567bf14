/- Arguments opened: disks. -/
import Derived.Test.YtemhbbpbmgpcaaaOpen2
import Derived.Test.YtemhbbpbmgpcaaaS1
namespace Go.G8
open Go.RowKit
theorem List.map_prod_left_eq_zip' {α : Type} (l : List (α × Value)) (f : α → NRow) : l.flatMap (fun d => ncell (f d.1, d.2)) = ((l.map (f ∘ fun x => x.1)).zip (l.map (·.2))).flatMap ncell := by
  induction l with
  | nil => rfl
  | cons x l ih => simp only [List.flatMap_cons, List.map_cons, List.zip_cons_cons, ih, Function.comp]
theorem Sl.of_each {α : Type} {f : α → List Value} {n : Nat} (hn : 0 < n) {w : World} {a : Addr} {len cap : Nat} (hl : len ≤ cap) (hm : cap ≤ maxLen) (l : List α) (hlen : l.length = len) (hf : ∀ x ∈ l, (f x).length = n)
    (hp : ∀ (i : Nat) (d : α), l[i]? = some d → ∀ j u, (f d)[j]? = some u → w.cell? ((a.add (i * n)).add j) = some u) : Sl n w (.slice (some a) len cap) (l.flatMap f) := by
  refine ⟨some a, len, cap, rfl, by rw [flatV_len f l hf, hlen], hl, hm, (fun h => by cases h), fun b off sp ha hpos => ?_⟩
  injection ha with ha
  subst ha
  have hd : 0 < l.length := by omega
  have hsp : sp = none := by
    have hm0 : (f l[0])[0]? = some ((f l[0])[0]'(by rw [hf _ (List.getElem_mem hd)]; exact hn)) := List.getElem?_eq_getElem _
    have h1 := hp 0 _ (List.getElem?_eq_getElem hd) 0 _ hm0
    have e0 : ((⟨b, off, sp⟩ : Addr).add (0 * n)).add 0 = ⟨b, off, sp⟩ := by unfold Addr.add; simp
    rw [e0] at h1
    cases sp with
    | none => rfl
    | some s => unfold World.cell? at h1; split at h1 <;> simp at h1
  subst hsp
  have hcell : ∀ i u, (l.flatMap f)[i]? = some u → w.cell? ⟨b, off + i, none⟩ = some u := by
    intro i u hu
    have hi : i < l.length * n := by
      rw [← flatV_len f l hf]
      exact (List.getElem?_eq_some_iff.1 hu).1
    have hd : i / n < l.length := Nat.div_lt_of_lt_mul (by rw [Nat.mul_comm]; exact hi)
    have hmod : i % n < n := Nat.mod_lt _ hn
    have he : i / n * n + i % n = i := by rw [Nat.mul_comm]; exact Nat.div_add_mod i n
    have hg := flatV_get f l hf (i / n) (i % n) l[i / n] (List.getElem?_eq_getElem hd) hmod
    rw [he, hu] at hg
    have := hp (i / n) _ (List.getElem?_eq_getElem hd) (i % n) u hg.symm
    rw [add_lit0, add_lit0, Nat.add_assoc, he] at this
    exact this
  have h0 : 0 < (l.flatMap f).length := by rw [flatV_len f l hf]; exact Nat.mul_pos hd hn
  exact ⟨rfl, World.block_lt_of_cell? w _ (hcell 0 _ (List.getElem?_eq_getElem h0)), hcell⟩
/-- From the cells of each element to rows. -/
theorem Nest.of_each {α : Type} {f : α → NRow} {n : Nat} (hf : ∀ x, (f x).1.length = n) {w : World} {a : Addr} {len cap : Nat} (hl : len ≤ cap) (hm : cap ≤ maxLen)
    (h : ∀ i, i < len → ∃ (d : α) (s : Value), (∀ j u, (ncell (f d, s))[j]? = some u → w.cell? ((a.add (i * (n + 1))).add j) = some u) ∧ Ints 1 w s (f d).2) : ∃ l : List α, l.length = len ∧ Nest n w (.slice (some a) len cap) (l.map f) := by
  obtain ⟨l, hlen, hp⟩ := choose_list (α := α × Value) (p := fun i d => (∀ j u, (ncell (f d.1, d.2))[j]? = some u → w.cell? ((a.add (i * (n + 1))).add j) = some u) ∧ Ints 1 w d.2 (f d.1).2) len (fun i hi => by
    obtain ⟨d, s, h1⟩ := h i hi
    exact ⟨(d, s), h1⟩)
  refine ⟨l.map (·.1), by simp [hlen], ?_, l.map (·.2), by simp, ?_, fun i s r h1 h2 => ?_⟩
  · intro r hr
    simp only [List.mem_map] at hr
    obtain ⟨x, ⟨y, _, rfl⟩, rfl⟩ := hr
    exact hf _
  · have e : ncells ((l.map (·.1)).map f) (l.map (·.2)) = l.flatMap (fun d => ncell (f d.1, d.2)) := by
      unfold ncells
      rw [List.map_map, ← List.map_prod_left_eq_zip' l f]
    rw [e]
    exact Sl.of_each (by omega) hl hm l hlen (fun x _ => by simp [ncell, hf]) (fun i d hd => (hp i d hd).1)
  · simp only [List.getElem?_map, Option.map_eq_some_iff] at h1 h2
    obtain ⟨x, hx, rfl⟩ := h1
    obtain ⟨y, ⟨z, hz, rfl⟩, rfl⟩ := h2
    rw [hx] at hz; injection hz with hz; subst hz
    exact (hp i x hx).2
end Go.G8
namespace Go.Proofs.Ytemhbbpbmgpcaaa
open Go.ChangeShapes Go.WideShapes Go.ChangeAt Go.RowKit Go.G8

theorem cc_Int64SS : Try.prog.cellsOf 31 = 1 := by kernel_rfl
section
variable {H : Type} {enc : TypeId × Value → H} {W : World} {base : Nat} {sp : Nat → Bool} {held : Bool}

theorem rl_Int64SS {fuel : Nat} {cs : List Value} {x : DataW H × List MemPlace} (h : DataW.trod enc Try.prog W base sp held fuel 31 cs = some x) : ∃ (s : Value) (l : List (List Int)), cs = [s] ∧ Nest 0 W s (nestInt64S l) := by
  rcases Deep.open_slice Try.underlying31 h with ⟨rfl, _⟩ | ⟨a, len, cap, m, n, D, Pl, rfl, hb, hl, hm, hmm, _, hx⟩
  · exact ⟨_, [], rfl, Nest.nil 0 W⟩
  · have hlm : len ≤ m := by rw [hmm]; split <;> omega
    obtain ⟨l, _, hi⟩ := Nest.of_each (f := fun r : List Int => (([], r) : NRow)) (n := 0) (fun _ => rfl) (w := W) (a := a) hl hm (fun i hi => by
      obtain ⟨cs', hc, ht⟩ := hx i (by omega)
      rw [cc_Int64S] at hc
      obtain ⟨s, d, rfl, hd⟩ := rl_Int64S ht
      obtain ⟨_, _, hcell⟩ := World.cells?_some hc
      refine ⟨d, s, fun j u hu => ?_, hd⟩
      have hj : j < 1 := by simpa [ncell] using (List.getElem?_eq_some_iff.1 hu).1
      rw [hcell j hj]
      obtain rfl : j = 0 := by omega
      simpa [ncell] using hu)
    exact ⟨_, l, rfl, hi⟩
end
end Go.Proofs.Ytemhbbpbmgpcaaa
