/- RA SAM SA. -/
import Derived.Test.YtkpmbocbbgocbaaGreatGa
import Derived.Test.YtkpmbocbbgocbaaGreatGu
import Derived.Test.YtkpmbocbbgocbaaGreatGg
import Derived.Test.YtkpmbocbbgocbaaGreatGw
import Derived.Test.YtkpmbocbbgocbaaGreatGv
set_option linter.unusedSimpArgs false
set_option linter.unusedVariables false
set_option maxHeartbeats 8000000
set_option maxRecDepth 100000
