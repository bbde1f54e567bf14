/- Slices whose elements hold a slice: rows of some integers and a slice of integers. -/
import Derived.Test.YtemhbbpbmgpcaaaDat
namespace Go.G8
open Go.RowKit

abbrev NRow := List Int × List Int
/-- The cells of a row: its integers, then its slice. -/
def ncell (p : NRow × Value) : List Value := p.1.1.map (.int .i64) ++ [p.2]
def ncells (rows : List NRow) (ss : List Value) : List Value := (rows.zip ss).flatMap ncell
def Wid (n : Nat) (rows : List NRow) : Prop := ∀ r ∈ rows, r.1.length = n

theorem flatV_get {α : Type} (f : α → List Value) {n : Nat} : ∀ (l : List α) (_ : ∀ x ∈ l, (f x).length = n) (k j : Nat) (d : α), l[k]? = some d → j < n → (l.flatMap f)[k * n + j]? = (f d)[j]?
  | [], _, k, j, d, h, _ => by simp at h
  | x :: l, hf, 0, j, d, h, hj => by
    simp at h; subst h
    rw [List.flatMap_cons, Nat.zero_mul, Nat.zero_add, List.getElem?_append_left (by rw [hf x (by simp)]; exact hj)]
  | x :: l, hf, k + 1, j, d, h, hj => by
    rw [List.flatMap_cons, List.getElem?_append_right (by rw [hf x (by simp), Nat.add_mul, Nat.one_mul]; omega), hf x (by simp)]
    rw [show (k + 1) * n + j - n = k * n + j by rw [Nat.add_mul, Nat.one_mul]; omega]
    exact flatV_get f l (fun y hy => hf y (by simp [hy])) k j d (by simpa using h) hj
theorem flatV_len {α : Type} (f : α → List Value) {n : Nat} (l : List α) (hf : ∀ x ∈ l, (f x).length = n) : (l.flatMap f).length = l.length * n := by
  induction l with
  | nil => simp
  | cons x l ih => rw [List.flatMap_cons, List.length_append, ih (fun y hy => hf y (by simp [hy])), hf x (by simp), List.length_cons, Nat.add_mul, Nat.one_mul]; omega
theorem ncell_len {n : Nat} {rows : List NRow} {ss : List Value} (hw : Wid n rows) : ∀ x ∈ rows.zip ss, (ncell x).length = n + 1 := by
  intro x hx
  have := hw x.1 (List.of_mem_zip hx).1
  simp [ncell, this]
theorem ncells_len {n : Nat} {rows : List NRow} {ss : List Value} (hw : Wid n rows) (hl : ss.length = rows.length) : (ncells rows ss).length = rows.length * (n + 1) := by
  unfold ncells
  rw [flatV_len ncell _ (ncell_len hw), List.length_zip, hl, Nat.min_self]
theorem zip_get {rows : List NRow} {ss : List Value} {i : Nat} {r : NRow} {s : Value} (hr : rows[i]? = some r) (hs : ss[i]? = some s) : (rows.zip ss)[i]? = some (r, s) := by
  rw [List.getElem?_zip_eq_some]; exact ⟨hr, hs⟩
theorem ncells_int {n : Nat} {rows : List NRow} {ss : List Value} (hw : Wid n rows) {i j : Nat} {r : NRow} {s : Value} {u : Int} (hr : rows[i]? = some r) (hs : ss[i]? = some s) (hu : r.1[j]? = some u) : (ncells rows ss)[i * (n + 1) + j]? = some (.int .i64 u) := by
  have hrl := hw r (List.mem_of_getElem? hr)
  have hj : j < n := by
    rw [← hrl]
    rcases Nat.lt_or_ge j r.1.length with h | h
    · exact h
    · rw [List.getElem?_eq_none h] at hu; cases hu
  unfold ncells
  rw [flatV_get ncell _ (ncell_len hw) i j (r, s) (zip_get hr hs) (by omega)]
  simp only [ncell]
  rw [List.getElem?_append_left (by simp; omega), List.getElem?_map, hu]; rfl
theorem ncells_sl {n : Nat} {rows : List NRow} {ss : List Value} (hw : Wid n rows) {i : Nat} {r : NRow} {s : Value} (hr : rows[i]? = some r) (hs : ss[i]? = some s) : (ncells rows ss)[i * (n + 1) + n]? = some s := by
  have hrl := hw r (List.mem_of_getElem? hr)
  unfold ncells
  rw [flatV_get ncell _ (ncell_len hw) i n (r, s) (zip_get hr hs) (by omega)]
  simp only [ncell]
  rw [List.getElem?_append_right (by simp; omega)]
  simp [hrl]
theorem ncells_snoc {rows : List NRow} {ss : List Value} (hl : ss.length = rows.length) (r : NRow) (s : Value) : ncells (rows ++ [r]) (ss ++ [s]) = ncells rows ss ++ ncell (r, s) := by
  unfold ncells
  rw [List.zip_append hl.symm]
  simp

/-- The slice value v reads rows. -/
def Nest (n : Nat) (w : World) (v : Value) (rows : List NRow) : Prop :=
  Wid n rows ∧ ∃ ss : List Value, ss.length = rows.length ∧ Sl (n + 1) w v (ncells rows ss) ∧ ∀ (i : Nat) (s : Value) (r : NRow), ss[i]? = some s → rows[i]? = some r → Ints 1 w s r.2
theorem Nest.ext {n : Nat} {w w' : World} {v : Value} {rows : List NRow} (h : Nest n w v rows) (e : Ext w w') : Nest n w' v rows := by
  obtain ⟨hw, ss, hl, hs, hi⟩ := h
  exact ⟨hw, ss, hl, hs.ext e, fun i s r h1 h2 => (hi i s r h1 h2).ext e⟩
theorem Nest.nil (n : Nat) (w : World) : Nest n w (.slice none 0 0) [] := ⟨fun r h => by simp at h, [], rfl, Sl.nil _ w, fun i s r h => by simp at h⟩
theorem Nest.shape {n : Nat} {w : World} {v : Value} {rows : List NRow} (h : Nest n w v rows) : ∃ a len cap, v = .slice a len cap := by
  obtain ⟨_, ss, _, hs, _⟩ := h
  exact hs.shape
/-- Opened for a walk: element i's integers, and its slice. -/
theorem Nest.open_ {n : Nat} {w : World} {v : Value} {rows : List NRow} (h : Nest n w v rows) :
    ∃ a cap, v = .slice a rows.length cap ∧ rows.length ≤ cap ∧ cap ≤ maxLen ∧
      ∀ i, i < rows.length → ∃ r b off s, rows[i]? = some r ∧ a = some ⟨b, off, none⟩ ∧ b < w.heap.size ∧ (∀ j u, r.1[j]? = some u → w.cell? ⟨b, off + i * (n + 1) + j, none⟩ = some (.int .i64 u)) ∧
        w.cell? ⟨b, off + i * (n + 1) + n, none⟩ = some s ∧ Ints 1 w s r.2 := by
  obtain ⟨hw, ss, hl, hs, hi⟩ := h
  obtain ⟨a, len, cap, rfl, hl2, h1, h2, h3⟩ := hs.open_
  rw [ncells_len hw hl] at hl2
  have hl3 : rows.length = len := Nat.eq_of_mul_eq_mul_right (by omega) hl2
  subst hl3
  refine ⟨a, cap, rfl, h1, h2, fun i hlt => ?_⟩
  obtain ⟨b, off, ha, hb, hc⟩ := h3 i hlt
  have hr : rows[i]? = some rows[i] := List.getElem?_eq_getElem hlt
  have hss : ss[i]? = some (ss[i]'(by omega)) := List.getElem?_eq_getElem (by omega)
  exact ⟨_, b, off, _, hr, ha, hb, fun j u hu => hc j _ (ncells_int hw hr hss hu), hc n _ (ncells_sl hw hr hss), hi i _ _ hss hr⟩

/-- The rows' slices are the call's own, and no two of them, nor the outer one, share memory. -/
structure Inner (B : Nat) (e1 : TypeId) (w : World) (v : Value) (rows : List NRow) (ss : List Value) : Prop where
  own : ∀ (i : Nat) (s : Value) (r : NRow), ss[i]? = some s → rows[i]? = some r → OwnI B e1 1 w s r.2
  two : ∀ (i j : Nat) (s t : Value) (k : Nat), i < j → ss[i]? = some s → ss[j]? = some t → k ∈ feet [s] → k ∈ feet [t] → False
  out : ∀ (i : Nat) (s : Value) (k : Nat), ss[i]? = some s → k ∈ feet [s] → k ∈ feet [v] → False
/-- The call owns the slice v of rows, whose slices are ss. -/
def OwnNs (B : Nat) (e e1 : TypeId) (n : Nat) (w : World) (v : Value) (rows : List NRow) (ss : List Value) : Prop :=
  Wid n rows ∧ ss.length = rows.length ∧ Own B e (n + 1) w v (ncells rows ss) ∧ Inner B e1 w v rows ss
def OwnNest (B : Nat) (e e1 : TypeId) (n : Nat) (w : World) (v : Value) (rows : List NRow) : Prop := ∃ ss, OwnNs B e e1 n w v rows ss
section
variable {B B' : Nat} {e e1 : TypeId} {n : Nat} {w w' : World} {v : Value} {rows : List NRow} {ss : List Value}
theorem Inner.ext (h : Inner B e1 w v rows ss) (x : Ext w w') : Inner B e1 w' v rows ss := ⟨fun i s r h1 h2 => (h.own i s r h1 h2).ext x, h.two, h.out⟩
theorem Inner.keep (h : Inner B e1 w v rows ss) (x : Chg B w w') : Inner B e1 w' v rows ss := ⟨fun i s r h1 h2 => (h.own i s r h1 h2).keep x, h.two, h.out⟩
theorem Inner.mono (h : Inner B e1 w v rows ss) (x : B' ≤ B) : Inner B' e1 w v rows ss := ⟨fun i s r h1 h2 => (h.own i s r h1 h2).mono x, h.two, h.out⟩
theorem OwnNs.ext (h : OwnNs B e e1 n w v rows ss) (x : Ext w w') : OwnNs B e e1 n w' v rows ss := ⟨h.1, h.2.1, Own.ext h.2.2.1 x, h.2.2.2.ext x⟩
theorem OwnNs.keep (h : OwnNs B e e1 n w v rows ss) (x : Chg B w w') : OwnNs B e e1 n w' v rows ss := ⟨h.1, h.2.1, Own.keep h.2.2.1 x, h.2.2.2.keep x⟩
theorem OwnNs.mono (h : OwnNs B e e1 n w v rows ss) (x : B' ≤ B) : OwnNs B' e e1 n w v rows ss := ⟨h.1, h.2.1, Own.mono h.2.2.1 x, h.2.2.2.mono x⟩
theorem OwnNs.nest (h : OwnNs B e e1 n w v rows ss) : Nest n w v rows := ⟨h.1, ss, h.2.1, Own.sl h.2.2.1, fun i s r h1 h2 => (h.2.2.2.own i s r h1 h2).ints⟩
theorem OwnNest.ext (h : OwnNest B e e1 n w v rows) (x : Ext w w') : OwnNest B e e1 n w' v rows := let ⟨ss, h⟩ := h; ⟨ss, h.ext x⟩
theorem OwnNest.keep (h : OwnNest B e e1 n w v rows) (x : Chg B w w') : OwnNest B e e1 n w' v rows := let ⟨ss, h⟩ := h; ⟨ss, h.keep x⟩
theorem OwnNest.mono (h : OwnNest B e e1 n w v rows) (x : B' ≤ B) : OwnNest B' e e1 n w v rows := let ⟨ss, h⟩ := h; ⟨ss, h.mono x⟩
theorem OwnNest.nest (h : OwnNest B e e1 n w v rows) : Nest n w v rows := let ⟨_, h⟩ := h; h.nest
theorem OwnNest.shape (h : OwnNest B e e1 n w v rows) : ∃ a len cap, v = .slice a len cap := h.nest.shape
theorem OwnNest.nil (B : Nat) (e e1 : TypeId) (n : Nat) (w : World) : OwnNest B e e1 n w (.slice none 0 0) [] :=
  ⟨[], fun r h => by simp at h, rfl, ⟨0, by simp [ncells], .inl ⟨rfl, rfl⟩⟩, ⟨fun i s r h => by simp at h, fun i j s t k _ h => by simp at h, fun i s k h => by simp at h⟩⟩
end

theorem Inner.snoc {B : Nat} {e1 : TypeId} {w : World} {v : Value} {rows : List NRow} {ss : List Value} {r : NRow} {t : Value} (h : Inner B e1 w v rows ss) (hl : ss.length = rows.length) (ht : OwnI B e1 1 w t r.2)
    (hd : ∀ (i : Nat) (s : Value) (k : Nat), ss[i]? = some s → k ∈ feet [s] → k ∈ feet [t] → False) (ho : ∀ k, k ∈ feet [t] → k ∈ feet [v] → False) : Inner B e1 w v (rows ++ [r]) (ss ++ [t]) := by
  have key : ∀ (i : Nat) (s : Value), (ss ++ [t])[i]? = some s → (i < ss.length ∧ ss[i]? = some s) ∨ (i = ss.length ∧ s = t) := by
    intro i s hi
    rcases Nat.lt_or_ge i ss.length with h' | h'
    · rw [List.getElem?_append_left h'] at hi; exact .inl ⟨h', hi⟩
    · rw [List.getElem?_append_right h'] at hi
      rcases Nat.lt_or_ge (i - ss.length) 1 with h2 | h2
      · have : i - ss.length = 0 := by omega
        rw [this] at hi; simp at hi; exact .inr ⟨by omega, hi.symm⟩
      · rw [List.getElem?_eq_none (by simpa using h2)] at hi; cases hi
  refine ⟨fun i s q h1 h2 => ?_, fun i j s u k hij h1 h2 => ?_, fun i s k h1 => ?_⟩
  · rcases key i s h1 with ⟨hi, h3⟩ | ⟨hi, rfl⟩
    · rw [List.getElem?_append_left (by omega)] at h2; exact h.own i s q h3 h2
    · rw [List.getElem?_append_right (by omega), hi, hl, Nat.sub_self] at h2; simp at h2; subst h2; exact ht
  · rcases key i s h1 with ⟨hi, h3⟩ | ⟨hi, rfl⟩
    · rcases key j u h2 with ⟨hj, h4⟩ | ⟨hj, rfl⟩
      · exact h.two i j s u k hij h3 h4
      · exact hd i s k h3
    · rcases key j u h2 with ⟨hj, h4⟩ | ⟨hj, rfl⟩
      · omega
      · omega
  · rcases key i s h1 with ⟨hi, h3⟩ | ⟨hi, rfl⟩
    · exact h.out i s k h3
    · exact ho k
theorem Pre.app {cur : Array Value} {m : Nat} {cs ds : List Value} (h : Pre cur m cs) (hm : m ≤ cs.length) : Pre cur m (cs ++ ds) := by
  intro j hj
  rw [List.getElem?_append_left (by omega)]
  exact h j hj
theorem wid_take {n : Nat} {rows : List NRow} (h : Wid n rows) (k : Nat) : Wid n (rows.take k) := fun r hr => h r (List.mem_of_mem_take hr)
theorem take_snoc {α : Type} {l : List α} {k : Nat} {r : α} (h : l[k]? = some r) : l.take (k + 1) = l.take k ++ [r] := by rw [List.take_add_one, h]; rfl

/-- The numbers that mark a list of rows. -/
def marks (n : Nat) (q : Int) : List NRow → List NRow
  | [] => []
  | r :: rows => (run q n, run (q + n) r.2.length) :: marks n (q + n + r.2.length) rows
def tot (n : Nat) (rows : List NRow) : Nat := (rows.map (fun r => n + r.2.length)).sum
def rowsSize (rows : List NRow) : Nat := rows.length + (rows.map (fun r => r.2.length)).sum
theorem length_marks (n : Nat) (q : Int) (rows : List NRow) : (marks n q rows).length = rows.length := by
  induction rows generalizing q with
  | nil => rfl
  | cons r rows ih => simp [marks, ih]
theorem wid_marks (n : Nat) (q : Int) (rows : List NRow) : Wid n (marks n q rows) := by
  induction rows generalizing q with
  | nil => intro r h; simp [marks] at h
  | cons r rows ih =>
    intro x hx
    simp only [marks, List.mem_cons] at hx
    rcases hx with rfl | hx
    · simp [length_run]
    · exact ih _ x hx
theorem tot_take {n : Nat} {rows : List NRow} {k : Nat} {r : NRow} (h : rows[k]? = some r) : tot n (rows.take (k + 1)) = tot n (rows.take k) + n + r.2.length := by
  rw [List.take_add_one, h]
  simp [tot]; omega
theorem tot_le {n : Nat} (rows : List NRow) (k : Nat) : tot n (rows.take k) ≤ tot n rows := by
  have h : tot n (rows.take k ++ rows.drop k) = tot n (rows.take k) + tot n (rows.drop k) := by simp only [tot, List.map_append, List.sum_append]
  rw [List.take_append_drop] at h
  omega
theorem marks_get {n : Nat} {rows : List NRow} {q : Int} {k : Nat} {r : NRow} (h : rows[k]? = some r) :
    (marks n q rows)[k]? = some (run (q + tot n (rows.take k)) n, run (q + tot n (rows.take k) + n) r.2.length) := by
  induction rows generalizing q k with
  | nil => simp at h
  | cons x rows ih =>
    cases k with
    | zero => simp at h; subst h; simp [marks, tot]
    | succ k =>
      simp only [List.getElem?_cons_succ] at h
      simp only [marks, List.getElem?_cons_succ, List.take_succ_cons]
      rw [ih h]
      have : (q + (n : Int) + (x.2.length : Int) + ((tot n (rows.take k) : Nat) : Int)) = q + ((tot n (x :: rows.take k) : Nat) : Int) := by
        simp [tot]; omega
      rw [this]
theorem rowsSize_take {rows : List NRow} {k : Nat} {r : NRow} (h : rows[k]? = some r) : ((rows.take (k + 1)).map (fun r => r.2.length)).sum = ((rows.take k).map (fun r => r.2.length)).sum + r.2.length := by
  rw [List.take_add_one, h]; simp
theorem sum_take_le (rows : List NRow) (k : Nat) : ((rows.take k).map (fun r => r.2.length)).sum ≤ (rows.map (fun r => r.2.length)).sum := by
  have h : ((rows.take k ++ rows.drop k).map (fun r => r.2.length)).sum = ((rows.take k).map (fun r => r.2.length)).sum + ((rows.drop k).map (fun r => r.2.length)).sum := by simp only [List.map_append, List.sum_append]
  rw [List.take_append_drop] at h
  omega
theorem rowsSize_row {rows : List NRow} {N i : Nat} {r : NRow} (h : rowsSize rows ≤ N) (hr : rows[i]? = some r) : r.2.length ≤ N := by
  have h1 := rowsSize_take hr
  have h2 := sum_take_le rows (i + 1)
  unfold rowsSize at h
  omega
theorem ncells_set_sl {rows : List NRow} {ss : List Value} {k : Nat} {r : NRow} (hr : rows[k]? = some r) (xs : List Int) : ncells (rows.set k (r.1, xs)) ss = ncells rows ss := by
  induction rows generalizing k ss with
  | nil => simp at hr
  | cons x rows ih =>
    cases ss with
    | nil => simp [ncells]
    | cons s ss =>
      cases k with
      | zero => simp at hr; subst hr; simp [ncells, ncell]
      | succ k =>
        have h := ih (ss := ss) (k := k) (by simpa using hr)
        simp only [ncells, List.set_cons_succ, List.zip_cons_cons, List.flatMap_cons] at h ⊢
        rw [h]
theorem wid_set {n : Nat} {rows : List NRow} (hw : Wid n rows) (k : Nat) (r : NRow) (hr : r.1.length = n) : Wid n (rows.set k r) := by
  intro x hx
  rcases List.mem_or_eq_of_mem_set hx with h | rfl
  · exact hw x h
  · exact hr
section
variable {B : Nat} {e e1 : TypeId} {n : Nat} {w w' : World} {v : Value} {rows : List NRow} {ss : List Value}
/-- One row's slice is written anew. -/
theorem OwnNs.set_row (h : OwnNs B e e1 n w v rows ss) {k : Nat} {r : NRow} {s : Value} (hr : rows[k]? = some r) (hs : ss[k]? = some s) (hU : Upd w w' (feet [s])) {xs : List Int} (hO : OwnI B e1 1 w' s xs) :
    OwnNs B e e1 n w' v (rows.set k (r.1, xs)) ss := by
  obtain ⟨hw, hl, hown, hin⟩ := h
  refine ⟨wid_set hw k _ (hw r (List.mem_of_getElem? hr)), by simpa using hl, ?_, ⟨fun i t q h1 h2 => ?_, hin.two, hin.out⟩⟩
  · rw [ncells_set_sl hr]
    exact Own.upd hown hU (fun g hg hf => hin.out k s g hs hf (by simp [feet, hg]))
  · rcases Nat.lt_trichotomy i k with hik | rfl | hik
    · rw [List.getElem?_set_ne (by omega)] at h2
      exact OwnI.upd' (hin.own i t q h1 h2) hU (fun g h3 h4 => hin.two i k t s g hik h1 hs h3 h4)
    · rw [List.getElem?_set_self (by have := (List.getElem?_eq_some_iff.1 hr).1; omega)] at h2
      injection h2 with h2; subst h2
      rw [hs] at h1; injection h1 with h1; subst h1
      exact hO
    · rw [List.getElem?_set_ne (by omega)] at h2
      exact OwnI.upd' (hin.own i t q h1 h2) hU (fun g h3 h4 => hin.two k i s t g hik hs h1 h4 h3)
theorem OwnNs.upd (h : OwnNs B e e1 n w v rows ss) {fs : List Nat} (hU : Upd w w' fs) (hd : ∀ k, k ∈ feet (v :: ss) → k ∈ fs → False) : OwnNs B e e1 n w' v rows ss := by
  obtain ⟨hw, hl, hown, hin⟩ := h
  refine ⟨hw, hl, Own.upd hown hU (fun g hg hf => hd g (by simp [feet, hg]) hf), ⟨fun i t q h1 h2 => OwnI.upd' (hin.own i t q h1 h2) hU (fun g h3 h4 => hd g ?_ h4), hin.two, hin.out⟩⟩
  simp only [feet, List.mem_filterMap] at h3 ⊢
  obtain ⟨t', ht, h5⟩ := h3
  simp at ht; subst ht
  exact ⟨t', List.mem_cons_of_mem _ (List.mem_of_getElem? h1), h5⟩
theorem OwnNs.foot (h : OwnNs B e e1 n w v rows ss) : ∀ k, k ∈ feet (v :: ss) → B ≤ k ∧ k < w.heap.size := by
  intro k hk
  obtain ⟨hw, hl, hown, hin⟩ := h
  simp only [feet, List.mem_filterMap] at hk
  obtain ⟨t, ht, h5⟩ := hk
  rcases List.mem_cons.1 ht with rfl | ht
  · exact hown.lt h5
  · obtain ⟨i, hi⟩ := List.mem_iff_getElem?.1 ht
    have hlt : i < rows.length := by
      have := (List.getElem?_eq_some_iff.1 hi).1
      omega
    exact Own.lt (hin.own i t rows[i] hi (List.getElem?_eq_getElem hlt)) h5
end
theorem feet_sub {v s : Value} {ss : List Value} {k i : Nat} (hs : ss[i]? = some s) (h : k ∈ feet [s]) : k ∈ feet (v :: ss) := by
  simp only [feet, List.mem_filterMap] at h ⊢
  obtain ⟨t', ht, h5⟩ := h
  simp at ht; subst ht
  exact ⟨t', List.mem_cons_of_mem _ (List.mem_of_getElem? hs), h5⟩
theorem mix_step {α : Type} {A R : List α} {k : Nat} {a : α} (hl : A.length = R.length) (ha : A[k]? = some a) : A.take (k + 1) ++ R.drop (k + 1) = (A.take k ++ R.drop k).set k a := by
  have hk : k < A.length := (List.getElem?_eq_some_iff.1 ha).1
  have h1 : (A.take k).length = k := by simp; omega
  rw [List.set_append_right _ _ (by omega), h1, Nat.sub_self, List.take_add_one, ha]
  have h2 : R.drop k = R[k]'(by omega) :: R.drop (k + 1) := List.drop_eq_getElem_cons (by omega)
  rw [h2, List.set_cons_zero]
  simp
theorem mix_get {α : Type} {A R : List α} {k : Nat} {r : α} (hl : A.length = R.length) (hr : R[k]? = some r) : (A.take k ++ R.drop k)[k]? = some r := by
  have hk : k < R.length := (List.getElem?_eq_some_iff.1 hr).1
  rw [List.getElem?_append_right (by simp; omega)]
  simp
  rw [show min k A.length = k by omega, Nat.sub_self]
  simpa using hr
theorem ncells_set_int {n : Nat} {rows : List NRow} {ss : List Value} {k : Nat} {r : NRow} (hw : Wid n rows) (hl : ss.length = rows.length) (hr : rows[k]? = some r) {j : Nat} (hj : j < n) (u : Int) :
    ncells (rows.set k (r.1.set j u, r.2)) ss = (ncells rows ss).set (k * (n + 1) + j) (.int .i64 u) := by
  induction rows generalizing k ss with
  | nil => simp at hr
  | cons x rows ih =>
    cases ss with
    | nil => simp at hl
    | cons s ss =>
      have hx := hw x (by simp)
      cases k with
      | zero =>
        simp at hr; subst hr
        simp only [ncells, List.set_cons_zero, List.zip_cons_cons, List.flatMap_cons, Nat.zero_mul, Nat.zero_add, ncell]
        rw [List.set_append_left _ _ (by simp; omega), List.set_append_left _ _ (by simp; omega)]
        simp [List.map_set]
      | succ k =>
        have h := ih (ss := ss) (k := k) (fun r hr => hw r (by simp [hr])) (by simpa using hl) (by simpa using hr)
        simp only [ncells, List.set_cons_succ, List.zip_cons_cons, List.flatMap_cons] at h ⊢
        have hlen : (ncell (x, s)).length = n + 1 := by simp [ncell, hx]
        rw [List.set_append_right _ _ (by rw [hlen, Nat.add_mul, Nat.one_mul]; omega), hlen, h]
        congr 2
        rw [Nat.add_mul, Nat.one_mul]; omega
theorem Pre.setBoth {cur : Array Value} {m i : Nat} {cs : List Value} {u : Value} (h : Pre cur m cs) (hm : m ≤ cs.length) (hc : m ≤ cur.size) : Pre (cur.setIfInBounds i u) m (cs.set i u) := by
  intro j hj
  by_cases e : j = i
  · subst e
    rw [List.getElem?_set_self (by omega)]
    have hjc : j < cur.size := by omega
    simp [hjc]
  · rw [Array.getElem?_setIfInBounds_ne (fun h => e h.symm), List.getElem?_set_ne (fun h => e h.symm)]; exact h j hj
/-- One integer of a row is written anew. -/
theorem OwnNs.set_int {B : Nat} {e e1 : TypeId} {n : Nat} {w : World} {rows : List NRow} {ss : List Value} {g len cap : Nat} (h : OwnNs B e e1 n w (.slice (some ⟨g, 0, none⟩) len cap) rows ss) {k : Nat} {r : NRow} (hr : rows[k]? = some r) {j : Nat} (hj : j < n) (u : Int) :
    OwnNs B e e1 n (w.setCell ⟨g, k * (n + 1) + j, none⟩ (.int .i64 u)) (.slice (some ⟨g, 0, none⟩) len cap) (rows.set k (r.1.set j u, r.2)) ss := by
  obtain ⟨hw, hl, hown, hin⟩ := h
  have hU : Upd w (w.setCell ⟨g, k * (n + 1) + j, none⟩ (.int .i64 u)) (feet [.slice (some ⟨g, 0, none⟩) len cap]) := (Upd.refl w _).setCell (by simp [feet, Value.ownBlock]) _
  have hrl := hw r (List.mem_of_getElem? hr)
  have hk : k < rows.length := (List.getElem?_eq_some_iff.1 hr).1
  refine ⟨wid_set hw k _ (by simpa using hrl), by simpa using hl, ?_, ⟨fun i t q h1 h2 => ?_, hin.two, hin.out⟩⟩
  · rw [ncells_set_int hw hl hr hj]
    have hnl := ncells_len hw hl
    obtain ⟨a', len', cap', hv, hcl, hc1, hc2, hcase⟩ := Own.open_ hown
    injection hv with hv1 hv2 hv3
    subst hv2; subst hv3
    rcases hcase with hz | ⟨g', cur, ha, hBg, hblk, hcsz, hpre⟩
    · rw [hnl, hz] at hcl
      have := Nat.mul_pos (show 0 < rows.length by omega) (show 0 < n + 1 by omega)
      omega
    · rw [ha] at hv1
      injection hv1 with hv1
      injection hv1 with hv1
      subst hv1
      refine Own.of_blk (hblk.set_ _ _) hBg (by simpa using hcsz) (by rw [List.length_set]; exact hcl) hc1 hc2 (hpre.setBoth (by omega) ?_)
      rw [hcsz]; exact Nat.mul_le_mul_right _ hc1
  · rcases Nat.lt_trichotomy i k with hik | rfl | hik
    · rw [List.getElem?_set_ne (by omega)] at h2
      exact OwnI.upd' (hin.own i t q h1 h2) hU (fun g h3 h4 => hin.out i t g h1 h3 h4)
    · rw [List.getElem?_set_self hk] at h2
      injection h2 with h2; subst h2
      exact OwnI.upd' (hin.own i t r h1 hr) hU (fun g h3 h4 => hin.out i t g h1 h3 h4)
    · rw [List.getElem?_set_ne (by omega)] at h2
      exact OwnI.upd' (hin.own i t q h1 h2) hU (fun g h3 h4 => hin.out i t g h1 h3 h4)
end Go.G8
