/- Copies of rows. -/
import Derived.Test.YtemhbbpbmgpcaaaS4
import Derived.Test.YtemhbbpbmgpcaaaNest2
set_option linter.unusedSimpArgs false
set_option linter.unusedVariables false
namespace Go.Proofs.Ytemhbbpbmgpcaaa
open Go.RowKit Go.G8

set_option maxHeartbeats 1600000 in
set_option maxRecDepth 100000 in
theorem l1Copy_c (w : World) (s0_0 : Value) (l0_0 : List Int) (h0_0 : Ints 1 w s0_0 l0_0) (e0 : l0_0.length ≤ 1000000) :
    Calls Try.prog 50 #[s0_0] w (Ret w fun r0 w' => OwnI w.heap.size 2 1 w' r0 l0_0) := by
  obtain ⟨a0, n0, k0, rfl⟩ := h0_0.shape
  obtain ⟨i0, hi, hz0, hz1, hz2⟩ := info_parts info_Int64
  go_enter Try.func50, Try.ntmps50
  go_wp2_with (first | (at_builtin; refine wp_append_fresh rfl (.tmp 3) (.tmp 4) 52 rfl 2 i0 _ 1 8 Try.underlying52 hi hz0 hz1 hz2 rfl (by decide) w.heap.size (by simp) rfl (.slice a0 n0 k0) (l0_0.map (.int .i64)) rfl h0_0 (ints_oneCell _ _) 1000000 (by simp; omega) (by unfold maxLen; omega) (by omega) ?_; rotate_right; intro t5 w1 g5 hx1; obtain ⟨ta5, tn5, tc5, rfl⟩ := g5.sl.shape))
  go_ret
  exact ⟨_, rfl, hx1, g5⟩
set_option maxHeartbeats 1600000 in
set_option maxRecDepth 100000 in
theorem copyRow_c (w : World) (s0_0 : Value) (l0_0 : List Int) (h0_0 : Ints 1 w s0_0 l0_0) (e0 : l0_0.length ≤ 1000000) :
    Calls Try.prog 61 #[s0_0] w (Ret w fun r0 w' => OwnI w.heap.size 2 1 w' r0 l0_0) := by
  obtain ⟨a0, n0, k0, rfl⟩ := h0_0.shape
  obtain ⟨i0, hi, hz0, hz1, hz2⟩ := info_parts info_Int64
  go_enter Try.func61, Try.ntmps61
  go_wp2_with (first | (at_builtin; refine wp_append_fresh rfl (.tmp 3) (.tmp 4) 52 rfl 2 i0 _ 1 8 Try.underlying52 hi hz0 hz1 hz2 rfl (by decide) w.heap.size (by simp) rfl (.slice a0 n0 k0) (l0_0.map (.int .i64)) rfl h0_0 (ints_oneCell _ _) 1000000 (by simp; omega) (by unfold maxLen; omega) (by omega) ?_; rotate_right; intro t5 w1 g5 hx1; obtain ⟨ta5, tn5, tc5, rfl⟩ := g5.sl.shape))
  go_ret
  exact ⟨_, rfl, hx1, g5⟩
end Go.Proofs.Ytemhbbpbmgpcaaa
namespace Go.G8
open Go.RowKit
theorem nestI_snoc (l : List (List Int)) (r : List Int) : nestInt64S (l ++ [r]) = nestInt64S l ++ [([], r)] := by simp [nestInt64S]
theorem nestW_snoc (l : List DWrite) (d : DWrite) : nestWrite (l ++ [d]) = nestWrite l ++ [([d.At], d.Row)] := by simp [nestWrite]
theorem Ext.row {W0 w w' : World} {B n : Nat} {e e1 : TypeId} {v : Value} {rows : List NRow} {ss : List Value} (h : Ext W0 w) (hown : OwnNs B e e1 n w v rows ss) (hB : W0.heap.size ≤ B) (hg : w.grownBy w' v.ownBlock) : Ext W0 w' := Ext.own h hown.2.2.1 hB hg
/-- What 'make([][]T, 0, n)' lays. -/
theorem OwnNs.made0 (w : World) (e e1 : TypeId) (n cap : Nat) (cur : Array Value) (hs : cur.size = cap * (n + 1)) (hm : cap ≤ maxLen) : OwnNs w.heap.size e e1 n (w.alloc (.cells cur e)) (.slice (some ⟨w.heap.size, 0, none⟩) 0 cap) [] [] :=
  ⟨fun r h => by simp at h, rfl, Own.of_blk (Blk.new _ _ _) (Nat.le_refl _) hs (by simp [ncells]) (Nat.zero_le _) hm (by simpa using Pre.zero _ _), ⟨fun i s r h => by simp at h, fun i j s t k _ h => by simp at h, fun i s k h => by simp at h⟩⟩
end Go.G8
namespace Go.Proofs.Ytemhbbpbmgpcaaa
open Go.RowKit Go.G8

end Go.Proofs.Ytemhbbpbmgpcaaa
