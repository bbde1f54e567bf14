/- Whole structs stored into boxes: one step, and what is read behind it. -/
import Derived.Test.YtemhbbpbmgpcaaaDat
import Derived.Laws.Tables
import Derived.Laws.CopyOwn
namespace Go.G8
open Go.RowKit

section
variable {w : World} {g b : Nat} {t : TypeId} {cs cells : Array Value}
theorem Blk.row (h : Blk w g t cs) (cells : Array Value) : Blk (w.setRow g cells) g t cells := setRow_heap w g cs cells t _ h
theorem heap_setRow_ne (w : World) (cells : Array Value) (h : b ≠ g) : (w.setRow g cells).heap[b]? = w.heap[b]? := by
  unfold World.setRow
  rw [Array.getElem?_modify, if_neg (fun e => h e.symm)]
theorem Blk.rowFar (h : Blk w b t cs) (hn : b ≠ g) (cells : Array Value) : Blk (w.setRow g cells) b t cs := (heap_setRow_ne w cells hn).trans h
theorem size_setRow (w : World) (g : Nat) (cells : Array Value) : (w.setRow g cells).heap.size = w.heap.size := by simp [World.setRow]
theorem cell_setRow_lt (w : World) (g b o : Nat) (cells : Array Value) (h : b < g) : (w.setRow g cells).cell? ⟨b, o, none⟩ = w.cell? ⟨b, o, none⟩ := World.cell?_of_block (w := w) (heap_setRow_ne w cells (show b ≠ g by omega))
theorem cell_setRow_gt (w : World) (g b o : Nat) (cells : Array Value) (h : g < b) : (w.setRow g cells).cell? ⟨b, o, none⟩ = w.cell? ⟨b, o, none⟩ := World.cell?_of_block (w := w) (heap_setRow_ne w cells (show b ≠ g by omega))
theorem frozen_setRow_lt (w : World) (g b o : Nat) (cells : Array Value) (h : b < g) : (w.setRow g cells).frozen? ⟨b, o, none⟩ = w.frozen? ⟨b, o, none⟩ := World.frozen?_of_block (w := w) (heap_setRow_ne w cells (show b ≠ g by omega))
theorem frozen_setRow_gt (w : World) (g b o : Nat) (cells : Array Value) (h : g < b) : (w.setRow g cells).frozen? ⟨b, o, none⟩ = w.frozen? ⟨b, o, none⟩ := World.frozen?_of_block (w := w) (heap_setRow_ne w cells (show b ≠ g by omega))
theorem size_drew (w : World) : w.drew.heap.size = w.heap.size := rfl
theorem Blk.cast {cs' : Array Value} (h : Blk w g t cs) (e : cs = cs') : Blk w g t cs' := e ▸ h
theorem Ext.setRow {a w : World} (h : Ext a w) (hg : a.heap.size ≤ g) (cells : Array Value) : Ext a (w.setRow g cells) := below_setRow h hg cells
theorem Chg.setRow {B : Nat} {a w : World} (h : Chg B a w) (hg : g < B ∨ a.heap.size ≤ g) (cells : Array Value) : Chg B a (w.setRow g cells) :=
  ⟨by rw [size_setRow]; exact h.size, fun i hB hi => (heap_setRow_ne w cells (by omega)).trans (h.block i hB hi)⟩
/-- A whole struct is stored into a box. -/
theorem wpList_store_box {P : Program} {ops : Array Oper} {rest : List Oper} {o : Oper} {a : Act} {Q : Exit → Act → World → Prop} (hgd : o.guard = none) (ty : TypeId) (x y : Operand) (ho : o.op = .store ty x y)
    (hx : a.eval x = .pointer (some ⟨g, 0, none⟩)) (hy : a.eval y = .agg cells) (old : Array Value) (hB : Blk w g t old) (hi : (P.info? ty).map (·.size) = some cells.size) (hold : old.size = cells.size)
    (h1 : cells.all (·.oneCell') = true) (h : Blk (w.setRow g cells) g t cells → wpList P ops Q rest (a.put o.dst undef) (w.setRow g cells)) : wpList P ops Q (o :: rest) a w :=
  wpList_plain hgd fun _ hK => wp_store_row ty x y ho g cells hx hy t old hB hi hold h1 (hK _ _ (h (hB.row cells)))
end
end Go.G8
