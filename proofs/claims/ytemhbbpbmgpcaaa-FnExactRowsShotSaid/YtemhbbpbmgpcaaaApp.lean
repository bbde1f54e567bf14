/- Append on a slice of the call's own, as a law for the walk over the words of Base. -/
import Derived.Test.YtemhbbpbmgpcaaaBase
import Derived.Laws.AppendOwnNone
namespace Go.G8
open Go.RowKit

theorem Ext.own {a w w' : World} {B : Nat} {e : TypeId} {n : Nat} {v : Value} {cs : List Value} (h : Ext a w) (hown : Own B e n w v cs) (hB : a.heap.size ≤ B) (hg : w.grownBy w' v.ownBlock) : Ext a w' :=
  Below.grown h hg h.size (fun _ hk => Nat.le_trans hB (hown.lt hk).1)

/-- One new record, as 'append(s, x)' lays it. -/
theorem Sl.one (w : World) (cur : Array Value) (t : TypeId) (n : Nat) (hn : cur.size = n) : Sl n (w.alloc (.cells cur t)) (.slice (some ⟨w.heap.size, 0, none⟩) 1 1) cur.toList := by
  refine ⟨_, 1, 1, rfl, by simp [hn], Nat.le_refl _, by decide, fun h => (by cases h), fun b off sp h _ => ?_⟩
  injection h with h; injection h with e1 e2 e3
  subst e1; subst e2; subst e3
  refine ⟨rfl, by simp, fun i u hu => ?_⟩
  rw [Nat.zero_add]
  have := (Blk.new w t cur).cell i
  rw [this]
  simpa using hu

/-- An empty slice that is not nil, as '[]T{}' lays it. -/
theorem Own.fresh (w : World) (t : TypeId) (n : Nat) : Own w.heap.size t n (w.alloc (.cells #[] t)) (.slice (some ⟨w.heap.size, 0, none⟩) 0 0) [] :=
  Own.of_blk (cap := 0) (Blk.new w t #[]) (Nat.le_refl _) (by simp) (by simp) (Nat.le_refl _) (by decide) (by simpa using Pre.zero _ _)

theorem wp_append {P : Program} {w : World} {ops : Array Oper} {rest : List Oper} {o : Oper} {a : Act} {Q : Exit → Act → World → Prop} (hgd : o.guard = none) (s x : Operand) (t : TypeId)
    (ho : o.op = .call { callee := .builtin .append, args := #[s, x], argTypes := #[t, t] })
    (e : TypeId) (i : TypeInfo) (z : Value) (size bytes : Nat) (ht : P.underlying t = some (.slice e)) (hi : P.info? e = some i) (hz : i.zero = some z)
    (hsize : i.size = size) (hby : i.bytes = bytes) (hzs : z.cells.size = size) (hsz : 0 < size)
    (B : Nat) (v : Value) (cs : List Value) (hs : a.eval s = v) (hown : Own B e size w v cs) (u : Value) (news : List Value) (hx : a.eval x = u) (hsl : Sl size w u news) (h1 : ∀ u ∈ news, u.oneCell' = true)
    (n : Nat) (hlen : cs.length + news.length ≤ n * size) (hn : n ≤ maxLen) (hbytes : n * bytes ≤ 140737488355328) (hbase : B ≤ w.heap.size)
    (W0 : World) (hW : Ext W0 w) (hB : W0.heap.size ≤ B)
    (h : ∀ v' w', Own B e size w' v' (cs ++ news) → Ext W0 w' → w.grownBy w' v.ownBlock → wpList P ops Q rest (a.put o.dst v') w') : wpList P ops Q (o :: rest) a w := by
  obtain ⟨len, ho'⟩ := hown
  obtain ⟨ad, m, c, rfl, hl, hmc, hcm, hnil, hcell⟩ := hsl
  have hl0 : cs.length = len * size := ho'.1
  have hle : len + m ≤ n := by
    have : (len + m) * size ≤ n * size := by rw [Nat.add_mul]; omega
    exact Nat.le_of_mul_le_mul_right this hsz
  cases ad with
  | none =>
    have hc0 := hnil rfl
    subst hc0
    have hm0 : m = 0 := by omega
    subst hm0
    have : news = [] := List.eq_nil_of_length_eq_zero (by simpa using hl)
    subst this
    exact wpList_append_own_none hgd s x t ho B e i size ht hi v len cs hs ho' hx (h v w ⟨len, by simpa using ho'⟩ hW (World.grownBy.refl w _))
  | some ad =>
    refine wpList_append_own w hgd s x t ho B e i z size bytes ht hi hz hsize hby hzs hsz v len cs hs ho' ad m c news hx hl (fun j u hu => ?_) h1 (Nat.le_trans hle hn) (Nat.le_trans (Nat.mul_le_mul_right _ hle) hbytes) hbase (fun v' w' h2 h3 _ => h v' w' ⟨_, h2⟩ (hW.own ⟨len, ho'⟩ hB h3) h3)
    have hm0 : 0 < m := by
      rcases Nat.eq_zero_or_pos m with h0 | h0
      · subst h0
        have : news = [] := List.eq_nil_of_length_eq_zero (by simpa using hl)
        subst this; simp at hu
      · exact h0
    obtain ⟨b, off, sp⟩ := ad
    obtain ⟨rfl, _, h8⟩ := hcell b off sp rfl hm0
    rw [add_lit0]
    exact h8 j u hu
/-- 'append([]T{}, x...)': to an empty slice that was just laid. -/
theorem wp_append_fresh {P : Program} {W : World} {ops : Array Oper} {rest : List Oper} {o : Oper} {a : Act} {Q : Exit → Act → World → Prop} (hgd : o.guard = none) (s x : Operand) (t : TypeId)
    (ho : o.op = .call { callee := .builtin .append, args := #[s, x], argTypes := #[t, t] })
    (e : TypeId) (i : TypeInfo) (z : Value) (size bytes : Nat) (ht : P.underlying t = some (.slice e)) (hi : P.info? e = some i) (hz : i.zero = some z)
    (hsize : i.size = size) (hby : i.bytes = bytes) (hzs : z.cells.size = size) (hsz : 0 < size)
    (B : Nat) (hB : W.heap.size = B) (hs : a.eval s = .slice (some ⟨B, 0, none⟩) 0 0) (u : Value) (news : List Value) (hx : a.eval x = u) (hsl : Sl size W u news) (h1 : ∀ u ∈ news, u.oneCell' = true)
    (n : Nat) (hlen : news.length ≤ n * size) (hn : n ≤ maxLen) (hbytes : n * bytes ≤ 140737488355328)
    (h : ∀ v' w', Own B e size w' v' news → Ext W w' → wpList P ops Q rest (a.put o.dst v') w') : wpList P ops Q (o :: rest) a (W.alloc (.cells #[] e)) := by
  subst hB
  exact wp_append hgd s x t ho e i z size bytes ht hi hz hsize hby hzs hsz W.heap.size _ [] hs (Own.fresh W e size) u news hx (hsl.ext ((Ext.refl _).alloc _)) h1 n (by simpa using hlen) hn hbytes (by simp) W ((Ext.refl _).alloc _) (Nat.le_refl _) (fun v' w' h2 h3 _ => h v' w' (by simpa using h2) h3)
end Go.G8
