/- New disks. -/
import Derived.Test.YtemhbbpbmgpcaaaS1
import Derived.Test.YtemhbbpbmgpcaaaHelpC
namespace Go.Proofs.Ytemhbbpbmgpcaaa
open Go.RowKit Go.G8

end Go.Proofs.Ytemhbbpbmgpcaaa
namespace Go.G8
open Go.RowKit
def newDisk (n : Int) : DDisk := if inb n 1 40 then ⟨List.replicate n.toNat [], []⟩ else ⟨[], []⟩
theorem ncells_nil (n : Nat) : ncells (nestInt64S (List.replicate n [])) (List.replicate n (.slice none 0 0)) = List.replicate n (.slice none 0 0) := by
  induction n with
  | zero => rfl
  | succ n ih =>
    simp only [List.replicate_succ, nestInt64S, ncells, List.map_cons, List.zip_cons_cons, List.flatMap_cons] at ih ⊢
    rw [ih]
    simp [ncell]
theorem OwnNs.nil (B : Nat) (e e1 : TypeId) (n : Nat) (w : World) : OwnNs B e e1 n w (.slice none 0 0) [] [] :=
  ⟨fun r h => by simp at h, rfl, ⟨0, by simp [ncells], .inl ⟨rfl, rfl⟩⟩, ⟨fun i s r h => by simp at h, fun i j s t k _ h => by simp at h, fun i s k h => by simp at h⟩⟩
/-- What 'make([][]int64, n)' lays. -/
theorem OwnNs.made (w : World) (e e1 : TypeId) (n : Nat) (hn : n ≤ 40) : OwnNs w.heap.size e e1 0 (w.alloc (.cells (madeCells #[.slice none 0 0] n) e)) (.slice (some ⟨w.heap.size, 0, none⟩) n n) (nestInt64S (List.replicate n [])) (List.replicate n (.slice none 0 0)) := by
  have hrep : ∀ (i : Nat) (s : Value), (List.replicate n (Value.slice none 0 0))[i]? = some s → s = .slice none 0 0 := by
    intro i s h
    exact List.eq_of_mem_replicate (List.mem_of_getElem? h)
  have hft : ∀ k, k ∈ feet [Value.slice none 0 0] → False := by simp [feet, Value.ownBlock]
  refine ⟨fun r h => by simp [nestInt64S] at h; simp [h], by simp [nestInt64S], Own.of_blk (cap := n) (Blk.new _ _ _) (Nat.le_refl _) (by simp [size_madeCells]) (by rw [ncells_nil]; simp) (Nat.le_refl _) (by unfold maxLen; omega) ?_, ⟨fun i s r h1 h2 => ?_, fun i j s t k _ h1 h2 h3 => ?_, fun i s k h1 h3 => ?_⟩⟩
  · rw [ncells_nil]
    intro j hj
    have hj' : j < n := by omega
    simp [madeCells, hj', Nat.mod_one]
  · rw [hrep i s h1]
    have : r.2 = [] := by
      have := List.mem_of_getElem? h2
      simp [nestInt64S] at this
      simp [this]
    rw [this]
    exact OwnI.nil _ _ _ _
  · rw [hrep i s h1] at h3; exact (hft k h3).elim
  · rw [hrep i s h1] at h3; exact (hft k h3).elim
theorem OwnNs.made1 (w : World) (o : Obj) (e e1 : TypeId) (n : Nat) (hn : n ≤ 40) : OwnNs (w.heap.size + 1) e e1 0 ((w.alloc o).alloc (.cells (madeCells #[.slice none 0 0] n) e)) (.slice (some ⟨w.heap.size + 1, 0, none⟩) n n) (nestInt64S (List.replicate n [])) (List.replicate n (.slice none 0 0)) := by
  have := OwnNs.made (w.alloc o) e e1 n hn
  rwa [World.size_alloc] at this
end Go.G8
namespace Go.Proofs.Ytemhbbpbmgpcaaa
open Go.RowKit Go.G8

end Go.Proofs.Ytemhbbpbmgpcaaa
