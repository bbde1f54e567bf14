/- RA SAM SA. -/
import Derived.Test.YtkpmbocbbgocbaaGreatPGw
import Derived.Test.YtkpmbocbbgocbaaGreatPGu
import Derived.Test.YtkpmbocbbgocbaaGreatPGg
set_option linter.unusedSimpArgs false
set_option linter.unusedVariables false
set_option maxHeartbeats 8000000
set_option maxRecDepth 100000
namespace Go.Proofs.YtkpmbocbbgocbaaGreat
open Go.RowKit Go.G8

end Go.Proofs.YtkpmbocbbgocbaaGreat
