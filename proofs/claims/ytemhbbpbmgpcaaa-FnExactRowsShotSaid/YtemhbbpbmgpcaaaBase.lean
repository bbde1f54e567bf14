/- Base: slices that read as lists of cells, worlds that only grow. -/
import Derived.WalkKit
import Derived.WalkSpells
import Derived.WalkLawsBesides
import Derived.Lib.Hide
import Derived.Deep.QuietTactic
import Derived.BigQuiet
import Derived.Deep.RegionHeld3
import Derived.Maps.Own
import Derived.Maps.OwnOps
import Derived.Maps.OwnSet
namespace Go.G8
open Go.RowKit

/-- w' is w with new blocks. -/
def Ext (w w' : World) : Prop := Below w.heap.size w w'
theorem Ext.refl (w : World) : Ext w w := Below.refl _ _
theorem Ext.size {w w' : World} (h : Ext w w') : w.heap.size ≤ w'.heap.size := Below.size h
theorem Ext.trans {a b c : World} (h : Ext a b) (k : Ext b c) : Ext a c := Below.trans h (Below.mono k h.size)
theorem Ext.alloc {a b : World} (h : Ext a b) (o : Obj) : Ext a (b.alloc o) := Below.alloc h h.size o
theorem Ext.drew {a b : World} (h : Ext a b) : Ext a b.drew := Below.drew h
theorem Ext.drewN {a b : World} (h : Ext a b) (n : Nat) : Ext a (b.drewN n) := below_drewN h n
theorem Ext.setCell {a b : World} (h : Ext a b) {k o : Nat} {sp : Option _} (hp : a.heap.size ≤ k) (u : Value) : Ext a (b.setCell ⟨k, o, sp⟩ u) := Below.setCell h (p := ⟨k, o, sp⟩) hp u
theorem Ext.cell {w w' : World} (h : Ext w w') {p : Addr} {v : Value} (hc : w.cell? p = some v) : w'.cell? p = some v :=
  (Below.cell h (World.block_lt_of_cell? w p hc)).trans hc
/-- What the walk needs of a world behind a call: old cells and marks read as before. -/
theorem Ext.cells {w w' : World} (h : Ext w w') :
    (∀ b o, b < w.heap.size → w'.cell? ⟨b, o, none⟩ = w.cell? ⟨b, o, none⟩) ∧ (∀ b o, b < w.heap.size → w'.frozen? ⟨b, o, none⟩ = w.frozen? ⟨b, o, none⟩) :=
  ⟨fun b o hb => Below.cell (p := ⟨b, o, none⟩) h hb, fun b o hb => Below.frozen (p := ⟨b, o, none⟩) h hb⟩

/-- A call that returns a value of which Q holds, in a world with new blocks. -/
def Ret (w : World) (Q : Value → World → Prop) (e : Ending) (w' : World) : Prop := ∃ v, e = .returned v ∧ Ext w w' ∧ Q v w'
/-- A call that returns the value v, in a world with new blocks. -/
def RetV (w : World) (v : Value) (e : Ending) (w' : World) : Prop := e = .returned v ∧ Ext w w'

/-- What is held of a world is held of a later one. -/
theorem held_of {S : World → Prop} {w w' : World} (hS : S w) (hx : Ext w w') (mono : ∀ a b, S a → Ext a b → S b) : S w' := mono _ _ hS hx

/-- The slice value v reads the cells cs, n cells an element. -/
def Sl (n : Nat) (w : World) (v : Value) (cs : List Value) : Prop :=
  ∃ a len cap, v = .slice a len cap ∧ cs.length = len * n ∧ len ≤ cap ∧ cap ≤ maxLen ∧ (a = none → cap = 0) ∧
    ∀ b off sp, a = some ⟨b, off, sp⟩ → 0 < len → sp = none ∧ b < w.heap.size ∧ ∀ i u, cs[i]? = some u → w.cell? ⟨b, off + i, none⟩ = some u

theorem Sl.ext {w w' : World} {n : Nat} {v : Value} {cs : List Value} (h : Sl n w v cs) (e : Ext w w') : Sl n w' v cs := by
  obtain ⟨a, len, cap, h1, h2, h3, h4, h5, h6⟩ := h
  exact ⟨a, len, cap, h1, h2, h3, h4, h5, fun b off sp ha hp => ⟨(h6 b off sp ha hp).1, Nat.lt_of_lt_of_le (h6 b off sp ha hp).2.1 e.size, fun i u hi => e.cell ((h6 b off sp ha hp).2.2 i u hi)⟩⟩

theorem Sl.nil (n : Nat) (w : World) : Sl n w (.slice none 0 0) [] := ⟨none, 0, 0, rfl, by simp, Nat.le_refl _, by decide, fun _ => rfl, fun _ _ _ h => by cases h⟩

/-- Opened for a walk: element i's cells. -/
theorem Sl.open_ {n : Nat} {w : World} {v : Value} {cs : List Value} (h : Sl n w v cs) :
    ∃ a len cap, v = .slice a len cap ∧ cs.length = len * n ∧ len ≤ cap ∧ cap ≤ maxLen ∧
      ∀ i, i < len → ∃ b off, a = some ⟨b, off, none⟩ ∧ b < w.heap.size ∧ ∀ j u, cs[i * n + j]? = some u → w.cell? ⟨b, off + i * n + j, none⟩ = some u := by
  obtain ⟨a, len, cap, h1, h2, h3, h4, h5, h6⟩ := h
  refine ⟨a, len, cap, h1, h2, h3, h4, fun i hi => ?_⟩
  cases a with
  | none => have := h5 rfl; omega
  | some a =>
    obtain ⟨b, off, sp⟩ := a
    obtain ⟨rfl, h7, h8⟩ := h6 b off sp rfl (by omega)
    exact ⟨b, off, rfl, h7, fun j u hu => by rw [Nat.add_assoc]; exact h8 _ u hu⟩

/-- The slice value v reads the integers xs, n of them an element. -/
def Ints (n : Nat) (w : World) (v : Value) (xs : List Int) : Prop := Sl n w v (xs.map (.int .i64))
theorem Ints.ext {w w' : World} {n : Nat} {v : Value} {l : List Int} (h : Ints n w v l) (e : Ext w w') : Ints n w' v l := Sl.ext h e
theorem Ints.nil (n : Nat) (w : World) : Ints n w (.slice none 0 0) [] := Sl.nil n w

/-- Opened for a walk: element i's integers, by their places. -/
theorem Ints.open_ {n : Nat} {w : World} {v : Value} {xs : List Int} (h : Ints n w v xs) :
    ∃ a len cap, v = .slice a len cap ∧ xs.length = len * n ∧ len ≤ cap ∧ cap ≤ maxLen ∧
      ∀ i, i < len → ∃ b off, a = some ⟨b, off, none⟩ ∧ b < w.heap.size ∧ ∀ j, j < n → ∃ x, xs[i * n + j]? = some x ∧ w.cell? ⟨b, off + i * n + j, none⟩ = some (.int .i64 x) := by
  obtain ⟨a, len, cap, h1, h2, h3, h4, h5⟩ := Sl.open_ h
  refine ⟨a, len, cap, h1, by simpa using h2, h3, h4, fun i hi => ?_⟩
  obtain ⟨b, off, ha, hb, hc⟩ := h5 i hi
  refine ⟨b, off, ha, hb, fun j hj => ?_⟩
  have hl : xs.length = len * n := by simpa using h2
  have hlt : i * n + j < xs.length := by
    rw [hl]
    calc i * n + j < i * n + n := by omega
      _ = (i + 1) * n := by rw [Nat.add_mul, Nat.one_mul]
      _ ≤ len * n := Nat.mul_le_mul_right _ hi
  exact ⟨xs[i * n + j], List.getElem?_eq_getElem hlt, hc j _ (by simp [List.getElem?_eq_getElem hlt])⟩

theorem flat_get {α : Type} (f : α → List Int) {n : Nat} (hf : ∀ x, (f x).length = n) : ∀ (l : List α) (k j : Nat) (d : α), l[k]? = some d → j < n → (l.flatMap f)[k * n + j]? = (f d)[j]?
  | [], k, j, d, h, _ => by simp at h
  | x :: l, 0, j, d, h, hj => by
    simp at h; subst h
    rw [List.flatMap_cons, Nat.zero_mul, Nat.zero_add, List.getElem?_append_left (by rw [hf]; exact hj)]
  | x :: l, k + 1, j, d, h, hj => by
    rw [List.flatMap_cons, List.getElem?_append_right (by rw [hf, Nat.add_mul, Nat.one_mul]; omega), hf]
    rw [show (k + 1) * n + j - n = k * n + j by rw [Nat.add_mul, Nat.one_mul]; omega]
    exact flat_get f hf l k j d (by simpa using h) hj
theorem flat_len {α : Type} (f : α → List Int) {n : Nat} (hf : ∀ x, (f x).length = n) (l : List α) : (l.flatMap f).length = l.length * n := by
  induction l with
  | nil => simp
  | cons x l ih => rw [List.flatMap_cons, List.length_append, ih, hf, List.length_cons, Nat.add_mul, Nat.one_mul]; omega
/-- A slice of records, opened for a walk. -/
theorem Ints.recs {α : Type} {f : α → List Int} {n : Nat} (hf : ∀ x, (f x).length = n) (hn : 0 < n) {w : World} {v : Value} {l : List α} (h : Ints n w v (l.flatMap f)) :
    ∃ a cap, v = .slice a l.length cap ∧ l.length ≤ cap ∧ cap ≤ maxLen ∧
      ∀ i, i < l.length → ∃ d b off, l[i]? = some d ∧ a = some ⟨b, off, none⟩ ∧ b < w.heap.size ∧ ∀ j u, j < n → (f d)[j]? = some u → w.cell? ⟨b, off + i * n + j, none⟩ = some (.int .i64 u) := by
  obtain ⟨a, len, cap, rfl, hl, h1, h2, h3⟩ := h.open_
  rw [flat_len f hf] at hl
  have hl' : l.length = len := Nat.eq_of_mul_eq_mul_right hn hl
  subst hl'
  refine ⟨a, cap, rfl, h1, h2, fun i hi => ?_⟩
  obtain ⟨b, off, ha, hb, hc⟩ := h3 i hi
  refine ⟨l[i], b, off, List.getElem?_eq_getElem hi, ha, hb, fun j u hj hu => ?_⟩
  obtain ⟨x, hx, hcell⟩ := hc j hj
  rw [flat_get f hf l i j l[i] (List.getElem?_eq_getElem hi) hj, hu] at hx
  rw [hcell, Option.some.inj hx]

theorem choose_list {α : Type} {p : Nat → α → Prop} : ∀ (len : Nat), (∀ i, i < len → ∃ y, p i y) → ∃ l : List α, l.length = len ∧ ∀ i y, l[i]? = some y → p i y
  | 0, _ => ⟨[], rfl, fun i y h => by simp at h⟩
  | len + 1, h => by
    obtain ⟨l, hl, hp⟩ := choose_list len (fun i hi => h i (by omega))
    obtain ⟨y, hy⟩ := h len (by omega)
    refine ⟨l ++ [y], by simp [hl], fun i z hz => ?_⟩
    by_cases hi : i < len
    · rw [List.getElem?_append_left (by omega)] at hz
      exact hp i z hz
    · rw [List.getElem?_append_right (by omega)] at hz
      have hi0 : i - l.length = 0 := by
        rcases Nat.eq_zero_or_pos (i - l.length) with h0 | h0
        · exact h0
        · rw [List.getElem?_eq_none (by simp; omega)] at hz; cases hz
      rw [hi0] at hz
      simp at hz
      subst hz
      obtain rfl : i = len := by omega
      exact hy
theorem add_lit0 (b off k : Nat) : (⟨b, off, none⟩ : Addr).add k = ⟨b, off + k, none⟩ := by
  unfold Addr.add; split <;> simp_all
/-- From the cells of each element to a list of records. -/
theorem Ints.of_each {α : Type} {f : α → List Int} {n : Nat} (hf : ∀ x, (f x).length = n) (hn : 0 < n) {w : World} {a : Addr} {len cap : Nat} (hl : len ≤ cap) (hm : cap ≤ maxLen)
    (h : ∀ i, i < len → ∃ d : α, ∀ j u, (f d)[j]? = some u → w.cell? ((a.add (i * n)).add j) = some (.int .i64 u)) : ∃ l : List α, l.length = len ∧ Ints n w (.slice (some a) len cap) (l.flatMap f) := by
  obtain ⟨l, hlen, hp⟩ := choose_list len h
  refine ⟨l, hlen, some a, len, cap, rfl, by rw [List.length_map, flat_len f hf, hlen], hl, hm, (fun h => by cases h), fun b off sp ha hpos => ?_⟩
  injection ha with ha
  subst ha
  have hsp : sp = none := by
    have hd : 0 < l.length := by omega
    have h1 := hp 0 _ (List.getElem?_eq_getElem hd) 0 _ (List.getElem?_eq_getElem (by rw [hf]; exact hn))
    have e0 : ((⟨b, off, sp⟩ : Addr).add (0 * n)).add 0 = ⟨b, off, sp⟩ := by unfold Addr.add; simp
    rw [e0] at h1
    cases sp with
    | none => rfl
    | some s => unfold World.cell? at h1; split at h1 <;> simp at h1
  subst hsp
  have hcell : ∀ i u, (l.flatMap f)[i]? = some u → w.cell? ⟨b, off + i, none⟩ = some (.int .i64 u) := by
    intro i u hu
    have hi : i < l.length * n := by
      rw [← flat_len f hf l]
      rcases Nat.lt_or_ge i (l.flatMap f).length with h' | h'
      · exact h'
      · rw [List.getElem?_eq_none h'] at hu; cases hu
    have hd : i / n < l.length := Nat.div_lt_of_lt_mul (by rw [Nat.mul_comm]; exact hi)
    have hmod : i % n < n := Nat.mod_lt _ hn
    have he : i / n * n + i % n = i := by rw [Nat.mul_comm]; exact Nat.div_add_mod i n
    have hg := flat_get f hf l (i / n) (i % n) l[i / n] (List.getElem?_eq_getElem hd) hmod
    rw [he, hu] at hg
    have := hp (i / n) _ (List.getElem?_eq_getElem hd) (i % n) u hg.symm
    rw [add_lit0, add_lit0, Nat.add_assoc, he] at this
    exact this
  have h0 : 0 < (l.flatMap f).length := by rw [flat_len f hf, hlen]; exact Nat.mul_pos hpos hn
  have hc0 := hcell 0 _ (List.getElem?_eq_getElem h0)
  refine ⟨rfl, World.block_lt_of_cell? w _ hc0, fun i u hu => ?_⟩
  rw [List.getElem?_map] at hu
  obtain ⟨x, hx, rfl⟩ := Option.map_eq_some_iff.1 hu
  exact hcell i x hx

/-- What a size count gives back: what is left, or -1. -/
def SzR (left : Int) (n : Nat) (v : Value) : Prop := (v = .int .i64 (-1) ∧ left < n) ∨ (v = .int .i64 (left - n) ∧ (n : Int) ≤ left)

theorem Sl.shape {n : Nat} {w : World} {v : Value} {cs : List Value} (h : Sl n w v cs) : ∃ a len cap, v = .slice a len cap := by
  obtain ⟨a, len, cap, h, _⟩ := h
  exact ⟨a, len, cap, h⟩
theorem Ints.shape {n : Nat} {w : World} {v : Value} {xs : List Int} (h : Ints n w v xs) : ∃ a len cap, v = .slice a len cap := Sl.shape h

/-- A run of numbers from k on. -/
def run (k : Int) : Nat → List Int
  | 0 => []
  | m + 1 => k :: run (k + 1) m
theorem length_run (k : Int) (m : Nat) : (run k m).length = m := by
  induction m generalizing k with
  | zero => rfl
  | succ m ih => simp [run, ih]
theorem run_get (k : Int) (m i : Nat) (h : i < m) : (run k m)[i]? = some (k + i) := by
  induction m generalizing k i with
  | zero => omega
  | succ m ih =>
    cases i with
    | zero => simp [run]
    | succ i => simp only [run, List.getElem?_cons_succ]; rw [ih (k + 1) i (by omega)]; congr 1; omega

theorem run_cell (k : Int) (m i : Nat) (h : i < m) : ((run k m).map (Value.int .i64))[i]? = some (.int .i64 (k + i)) := by
  rw [List.getElem?_map, run_get k m i h]; rfl
theorem run_cell' {k x : Int} {m i : Nat} (h : i < m) (e : x = k + i) : ((run k m).map (Value.int .i64))[i]? = some (.int .i64 x) := by rw [run_cell k m i h, e]
theorem mul_lt_of {k L : Nat} (h : k < L) (n : Nat) : k * n + n ≤ L * n := by
  calc k * n + n = (k + 1) * n := by rw [Nat.add_mul, Nat.one_mul]
    _ ≤ L * n := Nat.mul_le_mul_right _ h

/-- The call owns the slice value v: its row is one of the blocks from B on, and its cells are cs. -/
def Own (B : Nat) (e : TypeId) (n : Nat) (w : World) (v : Value) (cs : List Value) : Prop := ∃ len, w.ownsRow B e n v len cs
theorem Ext.grown {w w' : World} (h : Ext w w') : w.grownBy w' none := ⟨h.os, h.tape, h.output, Below.size h, fun k hk _ => Below.block h k hk⟩
theorem Own.ext {B : Nat} {e : TypeId} {n : Nat} {w w' : World} {v : Value} {cs : List Value} (h : Own B e n w v cs) (x : Ext w w') : Own B e n w' v cs := by
  obtain ⟨len, h⟩ := h
  exact ⟨len, h.kept x.grown (by cases hv : v.ownBlock <;> simp)⟩
theorem Own.sl {B : Nat} {e : TypeId} {n : Nat} {w : World} {v : Value} {cs : List Value} (h : Own B e n w v cs) : Sl n w v cs := by
  obtain ⟨len, h0, h | ⟨g, cap, cur, rfl, hb, hg, h1, h2, h3, h4⟩⟩ := h
  · obtain ⟨rfl, rfl⟩ := h
    have : cs = [] := List.eq_nil_of_length_eq_zero (by simpa using h0)
    subst this
    exact Sl.nil n w
  · refine ⟨some ⟨g, 0, none⟩, len, cap, rfl, h0, h1, h2, fun h => (by cases h), fun b off sp hs _ => ?_⟩
    injection hs with hs; injection hs with e1 e2 e3
    subst e1; subst e2; subst e3
    refine ⟨rfl, (Array.getElem?_eq_some_iff.1 hg).1, fun i u hi => ?_⟩
    rw [cell_of_row w g (0 + i) cur e (0, 0) hg, Nat.zero_add]
    rw [← h4, List.getElem?_take] at hi
    split at hi
    · simpa using hi
    · cases hi
theorem Own.lt {B : Nat} {e : TypeId} {n : Nat} {w : World} {v : Value} {cs : List Value} (h : Own B e n w v cs) {k : Nat} (hk : v.ownBlock = some k) : B ≤ k ∧ k < w.heap.size := by
  obtain ⟨len, h⟩ := h
  exact h.lt k hk
theorem Own.kept {B : Nat} {e : TypeId} {n : Nat} {w w' : World} {v : Value} {cs : List Value} {row : Option Nat} (h : Own B e n w v cs) (hg : w.grownBy w' row) (hne : v.ownBlock = none ∨ v.ownBlock ≠ row) : Own B e n w' v cs := by
  obtain ⟨len, h⟩ := h
  exact ⟨len, h.kept hg hne⟩
theorem Own.mono {B B' : Nat} {e : TypeId} {n : Nat} {w : World} {v : Value} {cs : List Value} (h : Own B e n w v cs) (hb : B' ≤ B) : Own B' e n w v cs := by
  obtain ⟨len, h0, h | ⟨g, cap, cur, hv, hb', hr⟩⟩ := h
  · exact ⟨len, h0, .inl h⟩
  · exact ⟨len, h0, .inr ⟨g, cap, cur, hv, Nat.le_trans hb hb', hr⟩⟩
/-- Integers of the call's own. -/
def OwnI (B : Nat) (e : TypeId) (n : Nat) (w : World) (v : Value) (xs : List Int) : Prop := Own B e n w v (xs.map (.int .i64))
theorem OwnI.ints {B : Nat} {e : TypeId} {n : Nat} {w : World} {v : Value} {xs : List Int} (h : OwnI B e n w v xs) : Ints n w v xs := Own.sl h

/-- Block g is just the cells cs. -/
def Blk (w : World) (g : Nat) (t : TypeId) (cs : Array Value) : Prop := w.heap[g]? = some (.cells cs t (0, 0))
section
variable {w w' : World} {g : Nat} {t : TypeId} {cs : Array Value}
theorem Blk.lt (h : Blk w g t cs) : g < w.heap.size := by
  rcases Nat.lt_or_ge g w.heap.size with hlt | hge
  · exact hlt
  · unfold Blk at h; rw [Array.getElem?_eq_none hge] at h; cases h
theorem Blk.cell (h : Blk w g t cs) (i : Nat) : w.cell? ⟨g, i, none⟩ = cs[i]? := cell_of_row w g i cs t (0, 0) h
theorem Blk.frozen (h : Blk w g t cs) (i : Nat) : w.frozen? ⟨g, i, none⟩ = false := by
  unfold Blk at h
  simp [World.frozen?, h]
theorem Blk.new (w : World) (t : TypeId) (cs : Array Value) : Blk (w.alloc (.cells cs t)) w.heap.size t cs := heap_alloc_new w _
theorem Blk.drew (h : Blk w g t cs) : Blk w.drew g t cs := h
theorem Blk.drewN (h : Blk w g t cs) (n : Nat) : Blk (w.drewN n) g t cs := h
theorem Blk.alloc (h : Blk w g t cs) (o : Obj) : Blk (w.alloc o) g t cs := (Below.heap_alloc w o g h.lt).trans h
theorem Blk.set_ (h : Blk w g t cs) (i : Nat) (u : Value) : Blk (w.setCell ⟨g, i, none⟩ u) g t (cs.setIfInBounds i u) := by
  unfold Blk at h ⊢
  simp [World.setCell, Array.getElem?_modify, h]
theorem Blk.far (h : Blk w g t cs) {p : Addr} (hp : g ≠ p.block) (u : Value) : Blk (w.setCell p u) g t cs := (Below.heap_setCell w p u g hp).trans h
theorem Blk.ext (h : Blk w g t cs) (x : Ext w w') : Blk w' g t cs := (Below.block x g h.lt).trans h
theorem Blk.grown {row : Option Nat} (h : Blk w g t cs) (hb : w.grownBy w' row) (hg : some g ≠ row) : Blk w' g t cs := (hb.block g h.lt hg).trans h
end

/-- The first m cells of a row are those of cs. -/
def Pre (cur : Array Value) (m : Nat) (cs : List Value) : Prop := ∀ j, j < m → cur[j]? = cs[j]?
theorem Pre.zero (cur : Array Value) (cs : List Value) : Pre cur 0 cs := fun j h => by omega
theorem Pre.set {cur : Array Value} {m : Nat} {cs : List Value} {u : Value} (h : Pre cur m cs) (hu : cs[m]? = some u) (hm : m < cur.size) : Pre (cur.setIfInBounds m u) (m + 1) cs := by
  intro j hj
  by_cases e : j = m
  · subst e; rw [hu]; simp [hm]
  · rw [Array.getElem?_setIfInBounds_ne (fun h => e h.symm)]; exact h j (by omega)
theorem Pre.cast {cur : Array Value} {m m' : Nat} {cs : List Value} (h : Pre cur m cs) (e : m = m') : Pre cur m' cs := e ▸ h
/-- A full row is owned. -/
theorem Own.of_blk {B : Nat} {e : TypeId} {n : Nat} {w : World} {g len cap : Nat} {cur : Array Value} {cs : List Value} (h : Blk w g e cur) (hB : B ≤ g) (hs : cur.size = cap * n) (hl : cs.length = len * n)
    (hc : len ≤ cap) (hm : cap ≤ maxLen) (hp : Pre cur (len * n) cs) : Own B e n w (.slice (some ⟨g, 0, none⟩) len cap) cs := by
  refine ⟨len, hl, .inr ⟨g, cap, cur, rfl, hB, h, hc, hm, hs, ?_⟩⟩
  apply List.ext_getElem?
  intro i
  rw [List.getElem?_take]
  split
  · rename_i hi; rw [Array.getElem?_toList]; exact hp i hi
  · rename_i hi; rw [List.getElem?_eq_none (by omega)]

/-- w' is w with new blocks, and the blocks of fs written. -/
structure Upd (w w' : World) (fs : List Nat) : Prop where
  os : w'.os = w.os
  tape : w'.tape = w.tape
  output : w'.output = w.output
  size : w.heap.size ≤ w'.heap.size
  block : ∀ k, k < w.heap.size → k ∉ fs → w'.heap[k]? = w.heap[k]?
theorem Upd.refl (w : World) (fs : List Nat) : Upd w w fs := ⟨rfl, rfl, rfl, Nat.le_refl _, fun _ _ _ => rfl⟩
theorem Upd.trans {a b c : World} {fs : List Nat} (h : Upd a b fs) (k : Upd b c fs) : Upd a c fs :=
  ⟨k.os.trans h.os, k.tape.trans h.tape, k.output.trans h.output, Nat.le_trans h.size k.size, fun i hi hn => (k.block i (Nat.lt_of_lt_of_le hi h.size) hn).trans (h.block i hi hn)⟩
theorem Upd.more {a b : World} {fs gs : List Nat} (h : Upd a b fs) (k : ∀ x, x ∈ fs → x ∈ gs) : Upd a b gs :=
  ⟨h.os, h.tape, h.output, h.size, fun i hi hn => h.block i hi (fun x => hn (k i x))⟩
theorem Ext.upd {a b : World} (h : Ext a b) (fs : List Nat) : Upd a b fs := ⟨h.os, h.tape, h.output, Below.size h, fun i hi _ => Below.block h i hi⟩
theorem Upd.ext {a b c : World} {fs : List Nat} (h : Upd a b fs) (k : Ext b c) : Upd a c fs := h.trans (k.upd fs)
theorem Upd.alloc {a b : World} {fs : List Nat} (h : Upd a b fs) (o : Obj) : Upd a (b.alloc o) fs := h.ext ((Ext.refl b).alloc o)
theorem Upd.setCell {a b : World} {fs : List Nat} (h : Upd a b fs) {p : Addr} (hp : p.block ∈ fs) (u : Value) : Upd a (b.setCell p u) fs :=
  h.trans ⟨rfl, rfl, rfl, by simp [World.setCell], fun k _ hn => Below.heap_setCell _ _ _ _ (fun e => hn (e ▸ hp))⟩
theorem Upd.setNew {a b : World} {fs : List Nat} (h : Upd a b fs) {p : Addr} (hp : a.heap.size ≤ p.block) (u : Value) : Upd a (b.setCell p u) fs :=
  ⟨h.os, h.tape, h.output, by simpa [World.setCell] using h.size, fun k hk hn => (Below.heap_setCell _ _ _ _ (by omega)).trans (h.block k hk hn)⟩
theorem Upd.below {a b : World} {fs : List Nat} {B : Nat} (h : Upd a b fs) (hB : ∀ x, x ∈ fs → B ≤ x) (hs : B ≤ a.heap.size) : Below B a b :=
  ⟨h.os, h.tape, h.output, h.size, fun k hk => h.block k (by omega) (fun hm => by have := hB k hm; omega)⟩
theorem Blk.upd {w w' : World} {g : Nat} {t : TypeId} {cs : Array Value} {fs : List Nat} (h : Blk w g t cs) (hb : Upd w w' fs) (hg : g ∉ fs) : Blk w' g t cs := (hb.block g h.lt hg).trans h
/-- The blocks of slice values. -/
def feet (vs : List Value) : List Nat := vs.filterMap Value.ownBlock
theorem Own.upd {B : Nat} {e : TypeId} {n : Nat} {w w' : World} {v : Value} {cs : List Value} {fs : List Nat} (h : Own B e n w v cs) (hg : Upd w w' fs) (hne : ∀ k, v.ownBlock = some k → k ∉ fs) : Own B e n w' v cs := by
  obtain ⟨len, h0, h | ⟨g, cap, cur, rfl, hb, hgg, rest⟩⟩ := h
  · exact ⟨len, h0, .inl h⟩
  · refine ⟨len, h0, .inr ⟨g, cap, cur, rfl, hb, ?_, rest⟩⟩
    rw [hg.block g (Array.getElem?_eq_some_iff.1 hgg).1 (hne g rfl)]
    exact hgg
/-- A call that returns v, having written the blocks of fs alone. -/
def RetM (w : World) (fs : List Nat) (v : Value) (Q : World → Prop) (e : Ending) (w' : World) : Prop := e = .returned v ∧ Upd w w' fs ∧ Q w'

/-- The blocks from B on are as they were. -/
structure Chg (B : Nat) (w w' : World) : Prop where
  size : w.heap.size ≤ w'.heap.size
  block : ∀ k, B ≤ k → k < w.heap.size → w'.heap[k]? = w.heap[k]?
theorem Chg.refl (B : Nat) (w : World) : Chg B w w := ⟨Nat.le_refl _, fun _ _ _ => rfl⟩
theorem Chg.ext {B : Nat} {a b c : World} (h : Chg B a b) (k : Ext b c) : Chg B a c := ⟨Nat.le_trans h.size k.size, fun i hB hi => (Below.block k i (Nat.lt_of_lt_of_le hi h.size)).trans (h.block i hB hi)⟩
theorem Chg.alloc {B : Nat} {a b : World} (h : Chg B a b) (o : Obj) : Chg B a (b.alloc o) := h.ext ((Ext.refl b).alloc o)
theorem Chg.drew {B : Nat} {a b : World} (h : Chg B a b) : Chg B a b.drew := h.ext ((Ext.refl b).drew)
theorem Chg.drewN {B : Nat} {a b : World} (h : Chg B a b) (n : Nat) : Chg B a (b.drewN n) := h.ext ((Ext.refl b).drewN n)
theorem Chg.setLow {B : Nat} {a b : World} (h : Chg B a b) {k o : Nat} {sp : Option _} (hp : k < B) (u : Value) : Chg B a (b.setCell ⟨k, o, sp⟩ u) :=
  ⟨by simpa [World.setCell] using h.size, fun i hB hi => (Below.heap_setCell b ⟨k, o, sp⟩ u i (by show i ≠ k; omega)).trans (h.block i hB hi)⟩
theorem Chg.setNew {B : Nat} {a b : World} (h : Chg B a b) {k o : Nat} {sp : Option _} (hp : a.heap.size ≤ k) (u : Value) : Chg B a (b.setCell ⟨k, o, sp⟩ u) :=
  ⟨by simpa [World.setCell] using h.size, fun i hB hi => (Below.heap_setCell b ⟨k, o, sp⟩ u i (by show i ≠ k; omega)).trans (h.block i hB hi)⟩
theorem Own.keep {B : Nat} {e : TypeId} {n : Nat} {w w' : World} {v : Value} {cs : List Value} (h : Own B e n w v cs) (c : Chg B w w') : Own B e n w' v cs := by
  obtain ⟨len, h0, h | ⟨g, cap, cur, rfl, hb, hgg, rest⟩⟩ := h
  · exact ⟨len, h0, .inl h⟩
  · refine ⟨len, h0, .inr ⟨g, cap, cur, rfl, hb, ?_, rest⟩⟩
    rw [c.block g hb (Array.getElem?_eq_some_iff.1 hgg).1]
    exact hgg
theorem OwnI.keep {B : Nat} {e : TypeId} {n : Nat} {w w' : World} {v : Value} {xs : List Int} (h : OwnI B e n w v xs) (c : Chg B w w') : OwnI B e n w' v xs := Own.keep h c
theorem OwnI.mono {B B' : Nat} {e : TypeId} {n : Nat} {w : World} {v : Value} {xs : List Int} (h : OwnI B e n w v xs) (hb : B' ≤ B) : OwnI B' e n w v xs := Own.mono h hb
theorem OwnI.shape {B : Nat} {e : TypeId} {n : Nat} {w : World} {v : Value} {xs : List Int} (h : OwnI B e n w v xs) : ∃ a len cap, v = .slice a len cap := h.ints.shape

/-- Opened for a walk that writes: a row with at least one element. -/
theorem Own.open_ {B : Nat} {e : TypeId} {n : Nat} {w : World} {v : Value} {cs : List Value} (h : Own B e n w v cs) :
    ∃ a len cap, v = .slice a len cap ∧ cs.length = len * n ∧ len ≤ cap ∧ cap ≤ maxLen ∧
      (len = 0 ∨ ∃ g cur, a = some ⟨g, 0, none⟩ ∧ B ≤ g ∧ Blk w g e cur ∧ cur.size = cap * n ∧ Pre cur (len * n) cs) := by
  obtain ⟨len, h0, ⟨rfl, rfl⟩ | ⟨g, cap, cur, rfl, hb, hg, h1, h2, h3, h4⟩⟩ := h
  · exact ⟨none, 0, 0, rfl, h0, Nat.le_refl _, by decide, .inl rfl⟩
  · refine ⟨_, len, cap, rfl, h0, h1, h2, .inr ⟨g, cur, rfl, hb, hg, h3, fun j hj => ?_⟩⟩
    rw [← h4, List.getElem?_take, if_pos hj, Array.getElem?_toList]
theorem Own.empty {B : Nat} {e : TypeId} {n : Nat} {w : World} {v : Value} {cs : List Value} (h : Own B e n w v cs) (hc : cs = []) (cs' : List Value) (hc' : cs' = []) : Own B e n w v cs' := by subst hc; subst hc'; exact h

/-- A region that draws its order, whose operations only read and whose calls hand back one value and make new blocks alone: one walk, in the order of the text. -/
theorem wp_region_ext {P : Program} {id : Nat} {Q : Exit → Act → World → Prop} {a : Act} {w : World} {l : List Oper} (hm : P.follows .mixedOrders = true) (hB : Region.lexB .any l.toArray = true)
    (h : wpQuiet P l.toArray (fun w' => Ext w w') (fun a' => ∀ w', Ext w w' → Q .normal a' w') l a) : (Code.region id l.toArray true).wp P Q a w :=
  wp_region_quiet (C := fun w' => Ext w w') hm hB (Ext.drew (Ext.refl w)) (by simpa using h)
theorem quiet_load {P : Program} {o : Oper} {a : Act} {C : World → Prop} {K : Act → Prop} (t : TypeId) (x : Operand) (A : Addr) (v : Value) (ho : o.op = .load t x) (hx : a.eval x = .pointer (some A))
    (hr : ∀ w, C w → (Instr.loadAt t (.pointer (some A))).run P w = .ok v w) (hk : K (a.put o.dst v)) : o.quiet P a C K :=
  ⟨v, fun w hw => by
    have h := hr w hw
    unfold Oper.quietAt execOp
    simp only [ho, Sem.run_bind, hx, h]
    simp [Oper.quietUpon], hk⟩
theorem quiet_lookup {P : Program} {o : Oper} {a : Act} {C : World → Prop} {K : Act → Prop} (t : TypeId) (m x : Operand) (M X : Value) (v : Value) (ho : o.op = .lookup t m x false) (hm : a.eval m = M) (hx : a.eval x = X)
    (hr : ∀ w, C w → (Instr.lookup t M X false).run P w = .ok v w) (hk : K (a.put o.dst v)) : o.quiet P a C K :=
  ⟨v, fun w hw => by
    have h := hr w hw
    unfold Oper.quietAt execOp
    simp only [ho, Sem.run_bind, hm, hx, h]
    simp [Oper.quietUpon], hk⟩

/-- A map of the call's own, from integers to bools, that says true at the numbers of S alone. -/
def BSet (P : Program) (k e : TypeId) (w : World) (b n : Nat) (S : List Int) : Prop :=
  ∃ D : DataW Unit, w.ownsMap P k (plainElem P e) b n D ∧ Go.Maps.IsMap D ∧ ∀ x, (Lit.int .i64 x).wf = true → D.atKey (.int .i64 x) (.lit (.bool false)) = .lit (.bool (decide (x ∈ S)))
section
variable {P : Program} {k e : TypeId} {w w' : World} {b n : Nat} {S : List Int}
theorem BSet.made (P : Program) (k e : TypeId) (w : World) : BSet P k e (w.alloc (.map #[] 0)) w.heap.size 0 [] :=
  ⟨.map [], World.ownsMap_made _ _ _ _, Go.Maps.isMap_empty, fun x _ => by simp [DataW.atKey]⟩
theorem BSet.lt (h : BSet P k e w b n S) : b < w.heap.size := by
  obtain ⟨D, h, _⟩ := h
  exact h.lt
theorem BSet.kept {row : Option Nat} (h : BSet P k e w b n S) (hg : w.grownBy w' row) (hne : some b ≠ row) : BSet P k e w' b n S := by
  obtain ⟨D, h, h1, h2⟩ := h
  exact ⟨D, h.kept hg hne, h1, h2⟩
theorem BSet.ext (h : BSet P k e w b n S) (x : Ext w w') : BSet P k e w' b n S := h.kept x.grown (by simp)
theorem BSet.look {t : TypeId} (h : BSet P k e w b n S) (hk : P.underlying k = some (.int .i64)) (ht : P.underlying t = some (.map k e)) (he : P.underlying e = some .bool) (hz : (zeroValue e).run P w = .ok (.bool false) w)
    {x : Int} (hx : (Lit.int .i64 x).wf = true) : (Instr.lookup t (.map (some b)) (.int .i64 x) false).run P w = .ok (.bool (decide (x ∈ S))) w := by
  obtain ⟨D, h, _, h2⟩ := h
  obtain ⟨v, ps, hrun, hv⟩ := h.lookup (Go.Maps.int_keyed hk) ht hz (plainElem_bool he false) (Go.Maps.keyOf_int_mk hk hx)
  rw [h2 x hx] at hv
  have hv' : v = .bool (decide (x ∈ S)) := by
    unfold plainElem at hv
    rw [he] at hv
    cases v <;> simp_all
  rw [hrun, hv']
theorem BSet.put {t : TypeId} (h : BSet P k e w b n S) (hk : P.underlying k = some (.int .i64)) (ht : P.underlying t = some (.map k e)) (he : P.underlying e = some .bool) (hn : n < maxLen)
    {x : Int} (hx : (Lit.int .i64 x).wf = true) : ∃ w', (Instr.mapUpdate t (.map (some b)) (.int .i64 x) (.bool true)).run P w = .ok () w' ∧ BSet P k e w' b (n + 1) (x :: S) ∧ w.grownBy w' (some b) := by
  obtain ⟨D, h, h1, h2⟩ := h
  obtain ⟨w', hrun, hown, hg⟩ := h.update (Go.Maps.int_keyed hk) ht hn (Go.Maps.keyOf_int_mk hk hx) (plainElem_bool (H := Unit) he true)
  refine ⟨w', hrun, ⟨_, hown, h1.put _ _, fun y hy => ?_⟩, hg⟩
  by_cases hxy : y = x
  · subst hxy
    rw [Go.Maps.atKey_put_same h1 ((Go.Maps.int_keyed hk).key (Go.Maps.keyOf_int_mk hk hx))]
    simp
  · rw [Go.Maps.atKey_put_other (by intro hh; injection hh with _ hh; exact hxy hh), h2 y hy]
    simp [hxy]
theorem Ext.grownOwn {a : World} {row : Nat} (h : Ext a w) (hg : w.grownBy w' (some row)) (hr : a.heap.size ≤ row) : Ext a w' :=
  Below.grown h hg h.size (fun k hk => by injection hk with hk; omega)
/-- 'm[k] = true' for the walk. -/
theorem wpList_put {ops : Array Oper} {rest : List Oper} {o : Oper} {a : Act} {Q : Exit → Act → World → Prop} (hg : o.guard = none) (m x v : Operand) (t : TypeId) (hop : o.op = .mapUpdate t m x v)
    (k e : TypeId) (hk : P.underlying k = some (.int .i64)) (ht : P.underlying t = some (.map k e)) (he : P.underlying e = some .bool) (b n : Nat) (S : List Int) (X : Int) (hm : a.eval m = .map (some b)) (hx : a.eval x = .int .i64 X) (hv : a.eval v = .bool true)
    (h : BSet P k e w b n S) (hn : n < maxLen) (hw : (Lit.int .i64 X).wf = true)
    (hK : ∀ w', BSet P k e w' b (n + 1) (X :: S) → w.grownBy w' (some b) → wpList P ops Q rest (a.put o.dst undef) w') : wpList P ops Q (o :: rest) a w := by
  refine wpList_plain hg fun K' hK' => ?_
  obtain ⟨w', hrun, r1, r2⟩ := h.put hk ht he hn hw
  unfold Oper.wp
  simp [execOp, hop, hm, hx, hv, hrun, Result.andThen]
  exact hK' _ _ (hK w' r1 r2)
end

/-- A call in such a region. -/
theorem call_ext {P : Program} {f : FuncId} {args : Array Value} {w0 w : World} {v : Value} (hw : Ext w0 w) (h : Calls P f args w (RetV w v)) : Calls P f args w fun e w'' => e = .returned v ∧ Ext w0 w'' :=
  h.mono fun _ _ ⟨he, hx⟩ => ⟨he, hw.trans hx⟩
theorem call_same {P : Program} {f : FuncId} {args : Array Value} {w0 w : World} {v : Value} (hw : Ext w0 w) (h : Calls P f args w fun e w' => e = .returned v ∧ w = w') : Calls P f args w fun e w'' => e = .returned v ∧ Ext w0 w'' :=
  h.mono fun _ _ ⟨he, hx⟩ => ⟨he, hx ▸ hw⟩

end Go.G8
