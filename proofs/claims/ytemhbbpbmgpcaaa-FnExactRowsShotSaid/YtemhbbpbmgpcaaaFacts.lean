/- Facts on the whole program that every row of the seat wants, each reckoned once. -/
import Derived.Test.YtemhbbpbmgpcaaaRows
import Derived.JoinedOf
namespace Go.Proofs.Ytemhbbpbmgpcaaa.facts
theorem b2 {a b : Bool} (ha : a = true) (hb : b = true) : (a && b) = true := by rw [ha, hb]; rfl
theorem k1 : (laidOutB Try.checked.prog) = true := by kernel_rfl
theorem k2 : (mapsRowed Try.checked.prog) = true := by kernel_rfl
theorem k6 : ((Try.checked.prog.stops == [])) = true := by kernel_rfl
theorem k8 : ((Try.checked.prog.stopKnobs == [])) = true := by kernel_rfl
theorem k22 : ((Rows.fnExactShotRowsRow.plainKeys == Try.checked.prog.plainKeys)) = true := by kernel_rfl
theorem k24 : (Try.checked.prog.stopsHeard) = true := by kernel_rfl
theorem k25 : (Try.checked.prog.mayEnter) = true := by kernel_rfl
theorem k26 : ((Rows.fnExactShotRowsRow.lifted == Try.checked.prog.liftsFinal)) = true := by kernel_rfl
theorem k27 : ((Try.checked.prog.make == some Rows.fnExactShotRowsRow.make)) = true := by kernel_rfl
end Go.Proofs.Ytemhbbpbmgpcaaa.facts
