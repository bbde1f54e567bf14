/- Contracts and plain laws: Sum Num Num2 Q11a. -/
import Derived.Test.YticiijpcdagbdaaGreatGa
import Derived.Test.YticiijpcdagbdaaGreatGe
import Derived.Test.YticiijpcdagbdaaGreatGd
set_option linter.unusedSimpArgs false
set_option linter.unusedVariables false
set_option maxHeartbeats 8000000
set_option maxRecDepth 100000
