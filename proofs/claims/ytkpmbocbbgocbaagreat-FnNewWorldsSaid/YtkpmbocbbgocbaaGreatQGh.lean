/- RA SAM SA. -/
import Derived.Test.YtkpmbocbbgocbaaGreatQGw
import Derived.Test.YtkpmbocbbgocbaaGreatQGu
import Derived.Test.YtkpmbocbbgocbaaGreatQGg
set_option linter.unusedSimpArgs false
set_option linter.unusedVariables false
set_option maxHeartbeats 8000000
set_option maxRecDepth 100000
namespace Go.Proofs.YtkpmbocbbgocbaaGreat
open Go.RowKit Go.G8

end Go.Proofs.YtkpmbocbbgocbaaGreat
