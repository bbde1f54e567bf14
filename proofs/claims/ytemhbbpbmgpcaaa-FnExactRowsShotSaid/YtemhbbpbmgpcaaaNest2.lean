/- Rows are appended and moved. -/
import Derived.Test.YtemhbbpbmgpcaaaNest
import Derived.Deep.AppendLies
import Derived.Deep.RegionLaw
namespace Go.G8
open Go.RowKit

theorem Upd.grown {w w' : World} {row : Option Nat} {fs : List Nat} (h : w.grownBy w' row) (hr : ∀ k, row = some k → k ∈ fs) : Upd w w' fs :=
  ⟨h.os, h.tape, h.output, h.size, fun i hi hn => h.block i hi (fun e => hn (hr i e.symm))⟩
theorem Upd.own {a w w' : World} {B : Nat} {e : TypeId} {n : Nat} {v : Value} {cs : List Value} {fs : List Nat} (h : Upd a w fs) (hown : Own B e n w v cs) (hB : a.heap.size ≤ B) (hg : w.grownBy w' v.ownBlock) : Upd a w' fs :=
  ⟨hg.os.trans h.os, hg.tape.trans h.tape, hg.output.trans h.output, Nat.le_trans h.size hg.size, fun i hi hn => (hg.block i (Nat.lt_of_lt_of_le hi h.size) (fun e => by have := (hown.lt e.symm).1; omega)).trans (h.block i hi hn)⟩
theorem wp_append_at {P : Program} {w : World} {ops : Array Oper} {rest : List Oper} {o : Oper} {a : Act} {Q : Exit → Act → World → Prop} (hgd : o.guard = none) (s x : Operand) (t : TypeId)
    (ho : o.op = .call { callee := .builtin .append, args := #[s, x], argTypes := #[t, t] })
    (e : TypeId) (i : TypeInfo) (z : Value) (size bytes : Nat) (ht : P.underlying t = some (.slice e)) (hi : P.info? e = some i) (hz : i.zero = some z)
    (hsize : i.size = size) (hby : i.bytes = bytes) (hzs : z.cells.size = size) (hsz : 0 < size)
    (B : Nat) (v : Value) (cs : List Value) (hs : a.eval s = v) (hown : Own B e size w v cs) (ad : Addr) (m c : Nat) (news : List Value) (hx : a.eval x = .slice (some ad) m c) (hl : news.length = m * size) (hnews : ∀ j u, news[j]? = some u → w.cell? (ad.add j) = some u) (h1 : ∀ u ∈ news, u.oneCell' = true)
    (n : Nat) (hlen : cs.length + news.length ≤ n * size) (hn : n ≤ maxLen) (hbytes : n * bytes ≤ 140737488355328) (hbase : B ≤ w.heap.size)
    (h : ∀ v' w', Own B e size w' v' (cs ++ news) → w.grownBy w' v.ownBlock → (v'.ownBlock = v.ownBlock ∨ v'.ownBlock = some w.heap.size) → wpList P ops Q rest (a.put o.dst v') w') : wpList P ops Q (o :: rest) a w := by
  obtain ⟨len, ho'⟩ := hown
  have hl0 : cs.length = len * size := ho'.1
  have hle : len + m ≤ n := by
    have : (len + m) * size ≤ n * size := by rw [Nat.add_mul]; omega
    exact Nat.le_of_mul_le_mul_right this hsz
  exact wpList_append_own_at w hgd s x t ho B e i z size bytes ht hi hz hsize hby hzs hsz v len cs hs ho' ad m c news hx hl hnews h1 (Nat.le_trans hle hn) (Nat.le_trans (Nat.mul_le_mul_right _ hle) hbytes) hbase (fun v' w' h2 h3 _ h5 => h v' w' ⟨_, h2⟩ h3 h5)
theorem ncell_one (p : NRow × Value) (h : p.2.oneCell' = true) : ∀ u ∈ ncell p, u.oneCell' = true := by
  intro u hu
  simp only [ncell, List.mem_append, List.mem_map, List.mem_singleton] at hu
  rcases hu with ⟨x, _, rfl⟩ | rfl
  · rfl
  · exact h
theorem wid_snoc {n : Nat} {rows : List NRow} (hw : Wid n rows) {r : NRow} (hr : r.1.length = n) : Wid n (rows ++ [r]) := by
  intro x hx
  rcases List.mem_append.1 hx with h | h
  · exact hw x h
  · simp at h; subst h; exact hr
/-- One row is appended: the outer slice's cells are known, the row's slice is younger than all of the outer one's. -/
theorem OwnNs.snoc {B B2 : Nat} {e e1 : TypeId} {n : Nat} {w w' : World} {v v' : Value} {rows : List NRow} {ss : List Value} {r : NRow} {t : Value} (h : OwnNs B e e1 n w v rows ss) (hr : r.1.length = n)
    (ht : OwnI B2 e1 1 w t r.2) (hB : B ≤ B2) (hlow : ∀ k, k ∈ feet (v :: ss) → k < B2)
    (hown : Own B e (n + 1) w' v' (ncells rows ss ++ ncell (r, t))) (hg : w.grownBy w' v.ownBlock) (hat : v'.ownBlock = v.ownBlock ∨ v'.ownBlock = some w.heap.size) : OwnNs B e e1 n w' v' (rows ++ [r]) (ss ++ [t]) := by
  have hf := h.foot
  obtain ⟨hw, hl, ho, hin⟩ := h
  have hU : Upd w w' (feet [v]) := Upd.grown hg (fun k hk => by simp [feet, hk])
  have hv' : ∀ k, k ∈ feet [v'] → k ∈ feet [v] ∨ k = w.heap.size := by
    intro k hk
    simp only [feet, List.mem_filterMap, List.mem_singleton, exists_eq_left] at hk ⊢
    rcases hat with h' | h'
    · exact .inl (h' ▸ hk)
    · rw [h'] at hk; injection hk with hk; exact .inr hk.symm
  have hlt : ∀ k, k ∈ feet [t] → B2 ≤ k ∧ k < w.heap.size := by
    intro k hk
    simp only [feet, List.mem_filterMap, List.mem_singleton, exists_eq_left] at hk
    exact Own.lt ht hk
  have hvl : ∀ k, k ∈ feet [v] → k ∈ feet (v :: ss) := by
    intro k hk
    simp only [feet, List.mem_filterMap] at hk ⊢
    obtain ⟨u, hu, hk⟩ := hk
    simp at hu; subst hu
    exact ⟨u, by simp, hk⟩
  refine ⟨wid_snoc hw hr, by simp [hl], by rw [ncells_snoc hl]; exact hown, ?_⟩
  have hin' : Inner B e1 w' v' rows ss := ⟨fun i s q h1 h2 => OwnI.upd' (hin.own i s q h1 h2) hU (fun k h3 h4 => hin.out i s k h1 h3 h4), hin.two, fun i s k h1 h2 h3 => by
    rcases hv' k h3 with h4 | h4
    · exact hin.out i s k h1 h2 h4
    · have := (hf k (feet_sub h1 h2)).2
      omega⟩
  refine hin'.snoc hl ((OwnI.upd' ht hU (fun k h3 h4 => ?_)).mono hB) (fun i s k h1 h2 h3 => ?_) (fun k h1 h2 => ?_)
  · have := hlow k (hvl k h4); have := (hlt k h3).1; omega
  · have := hlow k (feet_sub h1 h2); have := (hlt k h3).1; omega
  · have h3 := hlt k h1
    rcases hv' k h2 with h4 | h4
    · have := hlow k (hvl k h4); omega
    · omega
/-- A row's slice is moved in: the outer slice's cell i is set to a slice that the call owns and that nothing else of it reaches. -/
theorem ncells_set_slice {n : Nat} {rows : List NRow} {ss : List Value} {k : Nat} {r : NRow} (hw : Wid n rows) (hl : ss.length = rows.length) (hr : rows[k]? = some r) (xs : List Int) (t : Value) :
    ncells (rows.set k (r.1, xs)) (ss.set k t) = (ncells rows ss).set (k * (n + 1) + n) t := by
  induction rows generalizing k ss with
  | nil => simp at hr
  | cons x rows ih =>
    cases ss with
    | nil => simp at hl
    | cons s ss =>
      have hx := hw x (by simp)
      cases k with
      | zero =>
        simp at hr; subst hr
        simp only [ncells, List.set_cons_zero, List.zip_cons_cons, List.flatMap_cons, Nat.zero_mul, Nat.zero_add, ncell]
        rw [List.set_append_left _ _ (by simp; omega), List.set_append_right _ _ (by simp; omega)]
        simp [hx]
      | succ k =>
        have h := ih (ss := ss) (k := k) (fun r hr => hw r (by simp [hr])) (by simpa using hl) (by simpa using hr)
        simp only [ncells, List.set_cons_succ, List.zip_cons_cons, List.flatMap_cons] at h ⊢
        have hlen : (ncell (x, s)).length = n + 1 := by simp [ncell, hx]
        rw [List.set_append_right _ _ (by rw [hlen, Nat.add_mul, Nat.one_mul]; omega), hlen, h]
        congr 2
        rw [Nat.add_mul, Nat.one_mul]; omega
theorem OwnNs.set_slice {B : Nat} {e e1 : TypeId} {n : Nat} {w : World} {rows : List NRow} {ss : List Value} {g len cap : Nat} (h : OwnNs B e e1 n w (.slice (some ⟨g, 0, none⟩) len cap) rows ss) {k : Nat} {r : NRow} (hr : rows[k]? = some r) {t : Value} {xs : List Int}
    (ht : OwnI B e1 1 w t xs) (hd : ∀ (i : Nat) (s : Value) (f : Nat), i ≠ k → ss[i]? = some s → f ∈ feet [s] → f ∈ feet [t] → False) (hg : g ∉ feet [t]) :
    OwnNs B e e1 n (w.setCell ⟨g, k * (n + 1) + n, none⟩ t) (.slice (some ⟨g, 0, none⟩) len cap) (rows.set k (r.1, xs)) (ss.set k t) := by
  obtain ⟨hw, hl, hown, hin⟩ := h
  have hU : Upd w (w.setCell ⟨g, k * (n + 1) + n, none⟩ t) (feet [.slice (some ⟨g, 0, none⟩) len cap]) := (Upd.refl w _).setCell (by simp [feet, Value.ownBlock]) _
  have hrl := hw r (List.mem_of_getElem? hr)
  have hk : k < rows.length := (List.getElem?_eq_some_iff.1 hr).1
  have hks : k < ss.length := by omega
  refine ⟨wid_set hw k _ (by simpa using hrl), by simpa using hl, ?_, ⟨fun i s q h1 h2 => ?_, fun i j s u f hij h1 h2 h3 h4 => ?_, fun i s f h1 h2 h3 => ?_⟩⟩
  · rw [ncells_set_slice hw hl hr]
    have hnl := ncells_len hw hl
    obtain ⟨a', len', cap', hv, hcl, hc1, hc2, hcase⟩ := Own.open_ hown
    injection hv with hv1 hv2 hv3
    subst hv2; subst hv3
    rcases hcase with hz | ⟨g', cur, ha, hBg, hblk, hcsz, hpre⟩
    · rw [hnl, hz] at hcl
      have := Nat.mul_pos (show 0 < rows.length by omega) (show 0 < n + 1 by omega)
      omega
    · rw [ha] at hv1
      injection hv1 with hv1
      injection hv1 with hv1
      subst hv1
      refine Own.of_blk (hblk.set_ _ _) hBg (by simpa using hcsz) (by rw [List.length_set]; exact hcl) hc1 hc2 (hpre.setBoth (by omega) ?_)
      rw [hcsz]; exact Nat.mul_le_mul_right _ hc1
  · rcases (Decidable.em (i = k)).symm with hik | rfl
    · rw [List.getElem?_set_ne (fun e => hik e.symm)] at h1 h2
      exact OwnI.upd' (hin.own i s q h1 h2) hU (fun f h3 h4 => hin.out i s f h1 h3 h4)
    · rw [List.getElem?_set_self hks] at h1
      rw [List.getElem?_set_self hk] at h2
      injection h1 with h1; injection h2 with h2; subst h1; subst h2
      exact OwnI.upd' ht hU (fun f h3 h4 => hg (by simp [feet, Value.ownBlock] at h4; rw [← h4]; exact h3))
  · rcases (Decidable.em (i = k)).symm with hik | rfl
    · rw [List.getElem?_set_ne (fun e => hik e.symm)] at h1
      rcases (Decidable.em (j = k)).symm with hjk | rfl
      · rw [List.getElem?_set_ne (fun e => hjk e.symm)] at h2
        exact hin.two i j s u f hij h1 h2 h3 h4
      · rw [List.getElem?_set_self hks] at h2
        injection h2 with h2; subst h2
        exact hd i s f hik h1 h3 h4
    · rw [List.getElem?_set_self hks] at h1
      injection h1 with h1; subst h1
      rw [List.getElem?_set_ne (by omega)] at h2
      exact hd j u f (by omega) h2 h4 h3
  · rcases (Decidable.em (i = k)).symm with hik | rfl
    · rw [List.getElem?_set_ne (fun e => hik e.symm)] at h1
      exact hin.out i s f h1 h2 h3
    · rw [List.getElem?_set_self hks] at h1
      injection h1 with h1; subst h1
      simp [feet, Value.ownBlock] at h3
      exact hg (by rw [← h3]; exact h2)
end Go.G8
namespace Go.G8
open Go.RowKit
section
variable {P : Program} {w : World} {B B2 : Nat} {e e1 : TypeId} {n : Nat} {v : Value} {rows : List NRow} {ss : List Value} {r : NRow} {t : Value}
/-- 'append(rows, r)' at the operation: the row was laid into a block of its own. -/
theorem wp_append_row0 {o : Oper} {a : Act} {K : Act → World → Prop} {Q : Exit → Act → World → Prop} (s x : Operand) (ty : TypeId)
    (ho : o.op = .call { callee := .builtin .append, args := #[s, x], argTypes := #[ty, ty] })
    (i : TypeInfo) (z : Value) (bytes : Nat) (ht : P.underlying ty = some (.slice e)) (hi : P.info? e = some i) (hz : i.zero = some z)
    (hsize : i.size = n + 1) (hby : i.bytes = bytes) (hzs : z.cells.size = n + 1)
    (hs : a.eval s = v) (hown : OwnNs B e e1 n w v rows ss) (b : Nat) (hx : a.eval x = .slice (some ⟨b, 0, none⟩) 1 1) (cs : Array Value) (hb : Blk w b e cs) (hcs : cs.toList = ncell (r, t)) (hr : r.1.length = n)
    (hrow : OwnI B2 e1 1 w t r.2) (hB : B ≤ B2) (hlow : ∀ k, k ∈ feet (v :: ss) → k < B2) (N : Nat) (hlen : rows.length + 1 ≤ N) (hN : N ≤ maxLen) (hbytes : N * bytes ≤ 140737488355328) (hbase : B ≤ w.heap.size)
    (h : ∀ g cap w', OwnNs B e e1 n w' (.slice (some ⟨g, 0, none⟩) (rows.length + 1) cap) (rows ++ [r]) (ss ++ [t]) → w.grownBy w' v.ownBlock → (∀ W0 : World, Ext W0 w → W0.heap.size ≤ B → Ext W0 w') → (∀ (W0 : World) (fs : List Nat), Upd W0 w fs → W0.heap.size ≤ B → Upd W0 w' fs) → K (a.put o.dst (.slice (some ⟨g, 0, none⟩) (rows.length + 1) cap)) w') : o.wp P a w K Q := by
  obtain ⟨len, ho'⟩ := hown.2.2.1
  have hnl := ncells_len hown.1 hown.2.1
  have hle : len = rows.length := by
    have h1 : (ncells rows ss).length = len * (n + 1) := ho'.1
    rw [hnl] at h1
    exact (Nat.eq_of_mul_eq_mul_right (by omega) h1).symm
  subst hle
  obtain ⟨sa, sn, sc, rfl⟩ := hrow.shape
  have hcl : (ncell (r, .slice sa sn sc)).length = 1 * (n + 1) := by simp [ncell, hr]
  refine wp_append_lies w s x ty ho B e i z (n + 1) bytes ht hi hz hsize hby hzs (by omega) v _ _ hs ho' ⟨b, 0, none⟩ 1 1 (ncell (r, .slice sa sn sc)) hx hcl (fun j u hu => ?_) (ncell_one _ rfl) (by omega) (by omega) (Nat.le_trans (Nat.mul_le_mul_right _ hlen) hbytes) hbase _ rfl (fun g cap w' h1 h2 h3 _ => h g cap w' ?_ h2 (fun W0 hW hB0 => Ext.own hW ⟨_, ho'⟩ hB0 h2) (fun W0 fs hW hB0 => Upd.own hW ⟨_, ho'⟩ hB0 h2))
  · rw [add_lit0, Nat.zero_add, hb.cell j]
    rw [← hcs] at hu
    simpa using hu
  · exact hown.snoc hr hrow hB hlow ⟨_, h1⟩ h2 (h3.elim (fun h => .inl (by simp [Value.ownBlock] at h ⊢; exact h.symm)) (fun h => .inr (by simp [Value.ownBlock, h])))
theorem wp_append_row {ops : Array Oper} {rest : List Oper} {o : Oper} {a : Act} {Q : Exit → Act → World → Prop} (hgd : o.guard = none) (s x : Operand) (ty : TypeId)
    (ho : o.op = .call { callee := .builtin .append, args := #[s, x], argTypes := #[ty, ty] })
    (i : TypeInfo) (z : Value) (bytes : Nat) (ht : P.underlying ty = some (.slice e)) (hi : P.info? e = some i) (hz : i.zero = some z)
    (hsize : i.size = n + 1) (hby : i.bytes = bytes) (hzs : z.cells.size = n + 1)
    (hs : a.eval s = v) (hown : OwnNs B e e1 n w v rows ss) (b : Nat) (hx : a.eval x = .slice (some ⟨b, 0, none⟩) 1 1) (cs : Array Value) (hb : Blk w b e cs) (hcs : cs.toList = ncell (r, t)) (hr : r.1.length = n)
    (hrow : OwnI B2 e1 1 w t r.2) (hB : B ≤ B2) (hlow : ∀ k, k ∈ feet (v :: ss) → k < B2) (N : Nat) (hlen : rows.length + 1 ≤ N) (hN : N ≤ maxLen) (hbytes : N * bytes ≤ 140737488355328) (hbase : B ≤ w.heap.size)
    (h : ∀ g cap w', OwnNs B e e1 n w' (.slice (some ⟨g, 0, none⟩) (rows.length + 1) cap) (rows ++ [r]) (ss ++ [t]) → w.grownBy w' v.ownBlock → (∀ W0 : World, Ext W0 w → W0.heap.size ≤ B → Ext W0 w') → (∀ (W0 : World) (fs : List Nat), Upd W0 w fs → W0.heap.size ≤ B → Upd W0 w' fs) → wpList P ops Q rest (a.put o.dst (.slice (some ⟨g, 0, none⟩) (rows.length + 1) cap)) w') : wpList P ops Q (o :: rest) a w :=
  wpList_plain hgd fun _ hK => wp_append_row0 s x ty ho i z bytes ht hi hz hsize hby hzs hs hown b hx cs hb hcs hr hrow hB hlow N hlen hN hbytes hbase fun g cap w' h1 h2 h3 h4 => hK _ _ (h g cap w' h1 h2 h3 h4)
theorem step_append_row {ops : Array Oper} {o : Oper} {a : Act} {K : Act → World → Prop} {Q : Exit → Act → World → Prop} {E : Prop} (hgd : o.guard = none) (s x : Operand) (ty : TypeId)
    (ho : o.op = .call { callee := .builtin .append, args := #[s, x], argTypes := #[ty, ty] })
    (i : TypeInfo) (z : Value) (bytes : Nat) (ht : P.underlying ty = some (.slice e)) (hi : P.info? e = some i) (hz : i.zero = some z)
    (hsize : i.size = n + 1) (hby : i.bytes = bytes) (hzs : z.cells.size = n + 1)
    (hs : a.eval s = v) (hown : OwnNs B e e1 n w v rows ss) (b : Nat) (hx : a.eval x = .slice (some ⟨b, 0, none⟩) 1 1) (cs : Array Value) (hb : Blk w b e cs) (hcs : cs.toList = ncell (r, t)) (hr : r.1.length = n)
    (hrow : OwnI B2 e1 1 w t r.2) (hB : B ≤ B2) (hlow : ∀ k, k ∈ feet (v :: ss) → k < B2) (N : Nat) (hlen : rows.length + 1 ≤ N) (hN : N ≤ maxLen) (hbytes : N * bytes ≤ 140737488355328) (hbase : B ≤ w.heap.size)
    (h : ∀ g cap w', OwnNs B e e1 n w' (.slice (some ⟨g, 0, none⟩) (rows.length + 1) cap) (rows ++ [r]) (ss ++ [t]) → w.grownBy w' v.ownBlock → (∀ W0 : World, Ext W0 w → W0.heap.size ≤ B → Ext W0 w') → (∀ (W0 : World) (fs : List Nat), Upd W0 w fs → W0.heap.size ≤ B → Upd W0 w' fs) → K (a.put o.dst (.slice (some ⟨g, 0, none⟩) (rows.length + 1) cap)) w') :
    if Region.wanted o (yielded ops a.tmps) = true then Oper.wp P o a w K Q else E := by
  have hw : Region.wanted o (yielded ops a.tmps) = true := by simp [Region.wanted, hgd]
  rw [if_pos hw]
  exact wp_append_row0 s x ty ho i z bytes ht hi hz hsize hby hzs hs hown b hx cs hb hcs hr hrow hB hlow N hlen hN hbytes hbase h
/-- Opened: the outer block, and each element's cells. -/
theorem OwnNs.len (h : OwnNs B e e1 n w v rows ss) : ∃ a cap, v = .slice a rows.length cap ∧ rows.length ≤ cap ∧ cap ≤ maxLen := by
  obtain ⟨a, len, cap, h2, h3, h4, h5, _⟩ := Own.open_ h.2.2.1
  rw [ncells_len h.1 h.2.1] at h3
  have := Nat.eq_of_mul_eq_mul_right (by omega) h3
  subst this
  exact ⟨a, cap, h2, h4, h5⟩
theorem OwnNs.open_ (h : OwnNs B e e1 n w v rows ss) (hp : 0 < rows.length) : ∃ g cap cur, v = .slice (some ⟨g, 0, none⟩) rows.length cap ∧ rows.length ≤ cap ∧ cap ≤ maxLen ∧ B ≤ g ∧ Blk w g e cur ∧
    ∀ i q u, rows[i]? = some q → ss[i]? = some u → (∀ j y, q.1[j]? = some y → cur[i * (n + 1) + j]? = some (.int .i64 y)) ∧ cur[i * (n + 1) + n]? = some u := by
  obtain ⟨a, len, cap, h2, h3, h4, h5, hcase⟩ := Own.open_ h.2.2.1
  have hnl := ncells_len h.1 h.2.1
  have h3' := h3
  rw [hnl] at h3
  have := Nat.eq_of_mul_eq_mul_right (by omega) h3
  subst this
  rcases hcase with hz | ⟨g, cur, rfl, hBg, hblk, hcsz, hpre⟩
  · omega
  · refine ⟨g, cap, cur, h2, h4, h5, hBg, hblk, fun i q u hq hu => ⟨fun j y hy => ?_, ?_⟩⟩
    · have hj : j < q.1.length := (List.getElem?_eq_some_iff.1 hy).1
      have hqn := h.1 q (List.mem_of_getElem? hq)
      have h7 := mul_lt_of (List.getElem?_eq_some_iff.1 hq).1 (n + 1)
      rw [hpre _ (by omega)]
      exact ncells_int h.1 hq hu hy
    · have h7 := mul_lt_of (List.getElem?_eq_some_iff.1 hq).1 (n + 1)
      rw [hpre _ (by omega)]
      exact ncells_sl h.1 hq hu
end
end Go.G8
