/- Contracts and plain laws: Open Facts. -/
import Derived.Test.YtohoemphmghblaaGreatRows
import Derived.Test.YtohoemphmghblaaGreatGa
import Derived.ProofKit
import Derived.OpenShut
import Derived.ChangeOld
import Derived.Deep.Slices
import Derived.JoinedOf
-- Arguments opened: from the reading as data to cells and lists.
namespace Go.Proofs.YtohoemphmghblaaGreat
open Go.ChangeShapes Go.WideShapes Go.ChangeAt Go.RowKit Go.G8

theorem own : ownKnob Tryz.prog.godebug = none := by kernel_rfl
theorem laidOut : laidOutB Tryz.prog = true := by kernel_rfl

section
variable {H : Type} {enc : TypeId × Value → H} {W : World} {base : Nat} {sp : Nat → Bool} {held : Bool}

/-- One field of a struct that reads. -/
theorem rd_field {t : TypeId} {fs : Array Field} {fuel : Nat} {cs : List Value} {x : DataW H × List MemPlace} (ht : Tryz.prog.underlying t = some (.struct fs)) (h : DataW.trod enc Tryz.prog W base sp held fuel t cs = some x)
    (i : Nat) (f : Field) (hf : fs[i]? = some f) : ∃ n y, DataW.trod enc Tryz.prog W base sp held n f.type ((cs.drop f.offset).take (Tryz.prog.cellsOf f.type)) = some y := by
  obtain ⟨xs, n, _, _, _, hl, hr⟩ := DataW.trod_struct ht h
  have h1 := hr i f hf
  have hi : i < xs.length := by
    rw [hl]
    rcases Nat.lt_or_ge i fs.size with h' | h'
    · exact h'
    · rw [Array.getElem?_eq_none h'] at hf; cases hf
  rw [List.getElem?_eq_getElem hi] at h1
  exact ⟨n, _, h1⟩
theorem rd_len {t : TypeId} {fs : Array Field} {fuel : Nat} {cs : List Value} {x : DataW H × List MemPlace} (ht : Tryz.prog.underlying t = some (.struct fs)) (h : DataW.trod enc Tryz.prog W base sp held fuel t cs = some x) : cs.length = Tryz.prog.cellsOf t := by
  obtain ⟨xs, n, _, _, hl, _, _⟩ := DataW.trod_struct ht h
  exact hl
theorem c_int64 : Tryz.prog.cellsOf 2 = 1 := by kernel_rfl
end
end Go.Proofs.YtohoemphmghblaaGreat

-- Facts on the whole program that every row of the seat wants, each reckoned once.
namespace Go.Proofs.YtohoemphmghblaaGreat.facts
theorem b2 {a b : Bool} (ha : a = true) (hb : b = true) : (a && b) = true := by rw [ha, hb]; rfl
theorem k1 : (laidOutB Tryz.checked.prog) = true := by kernel_rfl
theorem k2 : (mapsRowed Tryz.checked.prog) = true := by kernel_rfl
theorem k6 : ((Tryz.checked.prog.stops == [])) = true := by kernel_rfl
theorem k8 : ((Tryz.checked.prog.stopKnobs == [])) = true := by kernel_rfl
theorem k22 : ((Rows.fnExactHeardFeedRow.plainKeys == Tryz.checked.prog.plainKeys)) = true := by kernel_rfl
theorem k24 : (Tryz.checked.prog.stopsHeard) = true := by kernel_rfl
theorem k25 : (Tryz.checked.prog.mayEnter) = true := by kernel_rfl
theorem k26 : ((Rows.fnExactHeardFeedRow.lifted == Tryz.checked.prog.liftsFinal)) = true := by kernel_rfl
theorem k27 : ((Tryz.checked.prog.make == some Rows.fnExactHeardFeedRow.make)) = true := by kernel_rfl
end Go.Proofs.YtohoemphmghblaaGreat.facts
