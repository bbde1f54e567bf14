/- Contracts and plain laws: Abb. -/
import Derived.Test.YtemfcogdjmjplaaGa
set_option linter.unusedSimpArgs false
set_option linter.unusedVariables false
-- Short names.
set_option linter.unusedSimpArgs false
set_option linter.unusedVariables false
namespace Go.Proofs.Ytemfcogdjmjplaa
open Go.RowKit Go.G8

end Go.Proofs.Ytemfcogdjmjplaa
namespace Go.G8
open Go.RowKit
theorem Blk.newD (w : World) (t : TypeId) (cs : Array Value) : Blk (w.drew.alloc (.cells cs t)) w.heap.size t cs := Blk.new w.drew t cs
theorem extT {w w' : World} (h : Ext w w' := by ((repeat' (first | (with_reducible exact Ext.refl _) | (with_reducible assumption) | (with_reducible refine Ext.drewN ?_ _) | (with_reducible refine Ext.drew ?_) | (with_reducible refine Ext.alloc ?_ _) | (with_reducible refine Ext.setCell ?_ ?_ _) | (with_reducible refine Ext.setRow ?_ ?_ _) | (with_reducible exact Nat.le_refl _) | (with_reducible refine Ext.trans ?_ (by assumption)) | omega)); first | done | fail)) : Ext w w' := h
theorem blkT {w : World} {g : Nat} {t : TypeId} {cs : Array Value} (h : Blk w g t cs := by ((repeat' (first | (with_reducible assumption) | (with_reducible exact Blk.new _ _ _) | (with_reducible exact Blk.newD _ _ _) | (with_reducible exact Blk.new2 _ _ _ _) | (with_reducible exact Blk.new3 _ _ _ _ _) | (with_reducible apply Blk.drew) | (with_reducible apply Blk.drewN) | (with_reducible apply Blk.alloc) | (with_reducible apply Blk.set_) | (with_reducible apply Blk.row) | (with_reducible apply Blk.far) | (with_reducible apply Blk.rowFar) | omega | (simp; done) | (simp; omega))); first | done | fail)) : Blk w g t cs := h
theorem setsT {α : Type} {a b : α} (h : a = b := by first | (with_reducible rfl) | (simp only [List.setIfInBounds_toArray, List.set_cons_zero, List.set_cons_succ]; done) | rfl | simp) : a = b := h
end Go.G8
namespace Go.Proofs.Ytemfcogdjmjplaa
open Go.RowKit Go.G8

end Go.Proofs.Ytemfcogdjmjplaa
