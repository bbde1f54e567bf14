/- Contracts and plain laws: Fo Fo2. -/
import Derived.Test.YtemfcogdjmjplaaGreatGk
import Derived.Deep.DeepCutAuto
-- Folded of the program.
set_option linter.unusedSimpArgs false
set_option linter.unusedVariables false
namespace Go.Proofs.YtemfcogdjmjplaaGreat
open Go.RowKit Go.G8

end Go.Proofs.YtemfcogdjmjplaaGreat
namespace Go.G8
open Go.RowKit
open Go.Proofs.YtemfcogdjmjplaaGreat
theorem OwnI.box7 {B : Nat} {e : TypeId} {n : Nat} {w : World} {v : Value} {xs : List Int} (h : OwnI B e n w v xs) {X : Nat} {t : TypeId} {a : Array Value} (hX : Blk w X t a) (h1 : t ≠ e) (u0 u1 u2 u3 u4 u5 u6 : Value) :
    OwnI B e n (((((((w.setCell ⟨X, 0, none⟩ u0).setCell ⟨X, 1, none⟩ u1).setCell ⟨X, 2, none⟩ u2).setCell ⟨X, 3, none⟩ u3).setCell ⟨X, 4, none⟩ u4).setCell ⟨X, 5, none⟩ u5).setCell ⟨X, 6, none⟩ u6) v xs :=
  ((((((h.boxI hX h1 0 u0).boxI (hX.set_ _ _) h1 1 u1).boxI ((hX.set_ _ _).set_ _ _) h1 2 u2).boxI (((hX.set_ _ _).set_ _ _).set_ _ _) h1 3 u3).boxI ((((hX.set_ _ _).set_ _ _).set_ _ _).set_ _ _) h1 4 u4).boxI (((((hX.set_ _ _).set_ _ _).set_ _ _).set_ _ _).set_ _ _) h1 5 u5).boxI ((((((hX.set_ _ _).set_ _ _).set_ _ _).set_ _ _).set_ _ _).set_ _ _) h1 6 u6
theorem Blk.box7 {w : World} {X : Nat} {t : TypeId} {x0 x1 x2 x3 x4 x5 x6 : Value} (hX : Blk w X t #[x0, x1, x2, x3, x4, x5, x6]) (u0 u1 u2 u3 u4 u5 u6 : Value) :
    Blk (((((((w.setCell ⟨X, 0, none⟩ u0).setCell ⟨X, 1, none⟩ u1).setCell ⟨X, 2, none⟩ u2).setCell ⟨X, 3, none⟩ u3).setCell ⟨X, 4, none⟩ u4).setCell ⟨X, 5, none⟩ u5).setCell ⟨X, 6, none⟩ u6) X t #[u0, u1, u2, u3, u4, u5, u6] := by
  have := ((((((hX.set_ 0 u0).set_ 1 u1).set_ 2 u2).set_ 3 u3).set_ 4 u4).set_ 5 u5).set_ 6 u6
  simpa using this
theorem Blk.far7 {w : World} {X g : Nat} {t : TypeId} {cs : Array Value} (h : Blk w g t cs) (hn : g ≠ X) (u0 u1 u2 u3 u4 u5 u6 : Value) :
    Blk (((((((w.setCell ⟨X, 0, none⟩ u0).setCell ⟨X, 1, none⟩ u1).setCell ⟨X, 2, none⟩ u2).setCell ⟨X, 3, none⟩ u3).setCell ⟨X, 4, none⟩ u4).setCell ⟨X, 5, none⟩ u5).setCell ⟨X, 6, none⟩ u6) g t cs :=
  ((((((h.far (p := ⟨X, 0, none⟩) hn u0).far (p := ⟨X, 1, none⟩) hn u1).far (p := ⟨X, 2, none⟩) hn u2).far (p := ⟨X, 3, none⟩) hn u3).far (p := ⟨X, 4, none⟩) hn u4).far (p := ⟨X, 5, none⟩) hn u5).far (p := ⟨X, 6, none⟩) hn u6
end Go.G8
namespace Go.Proofs.YtemfcogdjmjplaaGreat
open Go.RowKit Go.G8

end Go.Proofs.YtemfcogdjmjplaaGreat

-- Folded of the reference.
set_option linter.unusedSimpArgs false
set_option linter.unusedVariables false
namespace Go.Proofs.YtemfcogdjmjplaaGreat
open Go.RowKit Go.G8

end Go.Proofs.YtemfcogdjmjplaaGreat
