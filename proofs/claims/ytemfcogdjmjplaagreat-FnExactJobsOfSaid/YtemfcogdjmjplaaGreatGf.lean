/- Contracts and plain laws: Q11a Sum Num Num2. -/
import Derived.Test.YtemfcogdjmjplaaGreatGe
import Derived.Test.YtemfcogdjmjplaaGreatGd
-- Copies of states.
set_option linter.unusedSimpArgs false
set_option linter.unusedVariables false
namespace Go.Proofs.YtemfcogdjmjplaaGreat
open Go.RowKit Go.G8

end Go.Proofs.YtemfcogdjmjplaaGreat
namespace Go.G8
open Go.RowKit
end Go.G8
namespace Go.Proofs.YtemfcogdjmjplaaGreat
open Go.RowKit Go.G8
end Go.Proofs.YtemfcogdjmjplaaGreat

-- Checksums of rows.
set_option linter.unusedSimpArgs false
set_option linter.unusedVariables false
namespace Go.Proofs.YtemfcogdjmjplaaGreat
open Go.RowKit Go.G8

end Go.Proofs.YtemfcogdjmjplaaGreat
namespace Go.G8
open Go.RowKit
end Go.G8
namespace Go.Proofs.YtemfcogdjmjplaaGreat
open Go.RowKit Go.G8
end Go.Proofs.YtemfcogdjmjplaaGreat

-- Numbers written by a cursor.
set_option linter.unusedSimpArgs false
set_option linter.unusedVariables false
namespace Go.Proofs.YtemfcogdjmjplaaGreat
open Go.RowKit Go.G8

end Go.Proofs.YtemfcogdjmjplaaGreat
namespace Go.G8
open Go.RowKit
end Go.G8
namespace Go.Proofs.YtemfcogdjmjplaaGreat
open Go.RowKit Go.G8
end Go.Proofs.YtemfcogdjmjplaaGreat

-- The reference's rows of pairs, jobs and states.
set_option linter.unusedSimpArgs false
set_option linter.unusedVariables false
namespace Go.Proofs.YtemfcogdjmjplaaGreat
open Go.RowKit Go.G8

end Go.Proofs.YtemfcogdjmjplaaGreat
namespace Go.G8
open Go.RowKit
theorem step_append_own {P : Program} {w : World} {ops : Array Oper} {o : Oper} {a : Act} {K : Act → World → Prop} {Q : Exit → Act → World → Prop} {E : Prop} (hgd : o.guard = none) (s x : Operand) (t : TypeId)
    (ho : o.op = .call { callee := .builtin .append, args := #[s, x], argTypes := #[t, t] })
    (e : TypeId) (i : TypeInfo) (z : Value) (size bytes : Nat) (ht : P.underlying t = some (.slice e)) (hi : P.info? e = some i) (hz : i.zero = some z)
    (hsize : i.size = size) (hby : i.bytes = bytes) (hzs : z.cells.size = size) (hsz : 0 < size)
    (B : Nat) (v : Value) (cs : List Value) (hs : a.eval s = v) (hown : Own B e size w v cs) (ad : Addr) (m c : Nat) (news : List Value) (hx : a.eval x = .slice (some ad) m c) (hl : news.length = m * size) (hnews : ∀ j u, news[j]? = some u → w.cell? (ad.add j) = some u) (h1 : ∀ u ∈ news, u.oneCell' = true) (hm : 0 < m)
    (n : Nat) (hlen : cs.length + news.length ≤ n * size) (hn : n ≤ maxLen) (hbytes : n * bytes ≤ 140737488355328) (hbase : B ≤ w.heap.size)
    (h : ∀ v' w', Own B e size w' v' (cs ++ news) → w.grownBy w' v.ownBlock → K (a.put o.dst v') w') : if Region.wanted o (yielded ops a.tmps) = true then Oper.wp P o a w K Q else E := by
  obtain ⟨len, ho'⟩ := hown
  have hl0 : cs.length = len * size := ho'.1
  have hle : len + m ≤ n := by
    have : (len + m) * size ≤ n * size := by rw [Nat.add_mul]; omega
    exact Nat.le_of_mul_le_mul_right this hsz
  exact step_append_lies w hgd s x t ho B e i z size bytes ht hi hz hsize hby hzs hsz v len cs hs ho' ad m c news hx hl hnews h1 hm (Nat.le_trans hle hn) (Nat.le_trans (Nat.mul_le_mul_right _ hle) hbytes) hbase _ rfl (fun g cap w' h2 h3 _ _ => h _ w' ⟨_, h2⟩ h3)
end Go.G8
namespace Go.Proofs.YtemfcogdjmjplaaGreat
open Go.RowKit Go.G8
end Go.Proofs.YtemfcogdjmjplaaGreat
