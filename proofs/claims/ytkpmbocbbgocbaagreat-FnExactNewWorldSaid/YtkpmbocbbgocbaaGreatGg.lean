/- RS Cu Cu2 NS RS2 NS2 NS3 RS3 RS4. -/
import Derived.Test.YtkpmbocbbgocbaaGreatGa
import Derived.Test.YtkpmbocbbgocbaaGreatGv
import Derived.Test.YtkpmbocbbgocbaaGreatGe
import Derived.Test.YtkpmbocbbgocbaaGreatGd
import Derived.Test.YtkpmbocbbgocbaaGreatGf
import Derived.Test.YtkpmbocbbgocbaaGreatGb
set_option linter.unusedSimpArgs false
set_option linter.unusedVariables false
set_option maxHeartbeats 8000000
set_option maxRecDepth 100000
