/- RS Cu Cu2 NS RS2 NS2 NS3 RS3 RS4. -/
import Derived.Test.YtkpmbocbbgocbaaGreatQGv
set_option linter.unusedSimpArgs false
set_option linter.unusedVariables false
set_option maxHeartbeats 8000000
set_option maxRecDepth 100000
namespace Go.Proofs.YtkpmbocbbgocbaaGreat
open Go.RowKit Go.G8

end Go.Proofs.YtkpmbocbbgocbaaGreat
