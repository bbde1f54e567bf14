/- Contracts and plain laws: RS Cu Cu2 NS RS2 NS2 NS3 RS3 RS4. -/
import Derived.Test.YticiijpcdagbdaaGreatGa
import Derived.Test.YticiijpcdagbdaaGreatGv
import Derived.Test.YticiijpcdagbdaaGreatGe
import Derived.Test.YticiijpcdagbdaaGreatGd
import Derived.Test.YticiijpcdagbdaaGreatGf
import Derived.Test.YticiijpcdagbdaaGreatGb
set_option linter.unusedSimpArgs false
set_option linter.unusedVariables false
set_option maxHeartbeats 8000000
set_option maxRecDepth 100000
