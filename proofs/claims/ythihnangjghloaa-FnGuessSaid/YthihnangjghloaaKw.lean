/- Contracts and plain laws: V14 V15 V16. -/
import Derived.Test.YthihnangjghloaaKv
import Derived.Test.YthihnangjghloaaKa
set_option linter.unusedSimpArgs false
set_option linter.unusedVariables false
-- Schedulers: new, fallen, their request.
namespace Go.Proofs.Ythihnangjghloaa
open Go.RowKit Go.G8


end Go.Proofs.Ythihnangjghloaa

-- Schedulers: their sequence numbers.
namespace Go.Proofs.Ythihnangjghloaa
open Go.RowKit Go.G8

end Go.Proofs.Ythihnangjghloaa

-- Schedulers: what they decide.
namespace Go.Proofs.Ythihnangjghloaa
open Go.RowKit Go.G8


noncomputable def nfId (v : DView) (now : Int) : Int := (dueIds v.Jobs.Open (guessOf v now)).headD 0
noncomputable def nfOk (v : DView) (now : Int) : Bool := decide (0 < (dueIds v.Jobs.Open (guessOf v now)).length)
end Go.Proofs.Ythihnangjghloaa
