/- Contracts and plain laws: Open Facts Open2. -/
import Derived.Test.YthihnangjghloaaRows
import Derived.Test.YthihnangjghloaaSa
import Derived.ProofKit
import Derived.OpenShut
import Derived.ChangeOld
import Derived.Deep.Slices
import Derived.JoinedOf
set_option linter.unusedSimpArgs false
set_option linter.unusedVariables false
-- Arguments opened: from the reading as data to cells and lists.
namespace Go.Proofs.Ythihnangjghloaa
open Go.ChangeShapes Go.WideShapes Go.ChangeAt Go.RowKit Go.G8

theorem own : ownKnob Try.prog.godebug = none := by kernel_rfl
theorem laidOut : laidOutB Try.prog = true := by kernel_rfl

section
variable {H : Type} {enc : TypeId × Value → H} {W : World} {base : Nat} {sp : Nat → Bool} {held : Bool}

end
end Go.Proofs.Ythihnangjghloaa

-- Facts on the whole program that every row of the seat wants, each reckoned once.
namespace Go.Proofs.Ythihnangjghloaa.facts
theorem b2 {a b : Bool} (ha : a = true) (hb : b = true) : (a && b) = true := by rw [ha, hb]; rfl
theorem k1 : (laidOutB Try.checked.prog) = true := by kernel_rfl
theorem k2 : (mapsRowed Try.checked.prog) = true := by kernel_rfl
theorem k6 : ((Try.checked.prog.stops == [])) = true := by kernel_rfl
theorem k8 : ((Try.checked.prog.stopKnobs == [])) = true := by kernel_rfl
theorem k22 : ((Rows.fnViewLatestRow.plainKeys == Try.checked.prog.plainKeys)) = true := by kernel_rfl
theorem k24 : (Try.checked.prog.stopsHeard) = true := by kernel_rfl
theorem k25 : (Try.checked.prog.mayEnter) = true := by kernel_rfl
theorem k26 : ((Rows.fnViewLatestRow.lifted == Try.checked.prog.liftsFinal)) = true := by kernel_rfl
theorem k27 : ((Try.checked.prog.make == some Rows.fnViewLatestRow.make)) = true := by kernel_rfl
end Go.Proofs.Ythihnangjghloaa.facts

-- Arguments opened: leaf by leaf.
namespace Go.Proofs.Ythihnangjghloaa
open Go.ChangeShapes Go.WideShapes Go.ChangeAt Go.RowKit Go.G8

section
variable {H : Type} {enc : TypeId × Value → H} {W : World} {base : Nat} {sp : Nat → Bool} {held : Bool}

end
end Go.Proofs.Ythihnangjghloaa
