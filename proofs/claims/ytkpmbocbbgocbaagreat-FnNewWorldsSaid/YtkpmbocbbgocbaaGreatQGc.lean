/- Open Facts. -/
import Derived.Test.YtkpmbocbbgocbaaGreatQGa
import Derived.ProofKit
import Derived.OpenShut
import Derived.ChangeOld
import Derived.Deep.Slices
import Derived.JoinedOf
set_option linter.unusedSimpArgs false
set_option linter.unusedVariables false
set_option maxHeartbeats 8000000
set_option maxRecDepth 100000
namespace Go.Proofs.YtkpmbocbbgocbaaGreat
open Go.ChangeShapes Go.WideShapes Go.ChangeAt Go.RowKit Go.G8
theorem own:ownKnob Tryz.prog.godebug=none:=by kernel_rfl
theorem sO:laidOutB Tryz.prog=true:=by kernel_rfl
section
variable {H:Type} {enc:TypeId × Value->H} {W:World} {base:Nat} {sp:Nat->Bool} {held:Bool}
end
end Go.Proofs.YtkpmbocbbgocbaaGreat
namespace Go.Proofs.YtkpmbocbbgocbaaGreat.facts
theorem b2{a b:Bool}(ha:a=true)(hb:b=true):(a&&b)=true:=by rw[ha,hb];rfl
theorem k1:(laidOutB Tryz.checked.prog)=true:=by kernel_rfl
theorem k2:(mapsRowed Tryz.checked.prog)=true:=by kernel_rfl
theorem k6:((Tryz.checked.prog.stops == []))=true:=by kernel_rfl
theorem k8:((Tryz.checked.prog.stopKnobs == []))=true:=by kernel_rfl
theorem k22:((Rows.fnExactSameWorldRow.plainKeys == Tryz.checked.prog.plainKeys))=true:=by kernel_rfl
theorem k24:(Tryz.checked.prog.stopsHeard)=true:=by kernel_rfl
theorem k25:(Tryz.checked.prog.mayEnter)=true:=by kernel_rfl
theorem k26:((Rows.fnExactSameWorldRow.lifted == Tryz.checked.prog.liftsFinal))=true:=by kernel_rfl
theorem k27:((Tryz.checked.prog.make == some Rows.fnExactSameWorldRow.make))=true:=by kernel_rfl
end Go.Proofs.YtkpmbocbbgocbaaGreat.facts
