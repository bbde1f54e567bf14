/- Contracts and plain laws: RA SAM SA. -/
import Derived.Test.YticiijpcdagbdaaGreatGa
import Derived.Test.YticiijpcdagbdaaGreatGu
import Derived.Test.YticiijpcdagbdaaGreatGg
import Derived.Test.YticiijpcdagbdaaGreatGw
import Derived.Test.YticiijpcdagbdaaGreatGv
set_option linter.unusedSimpArgs false
set_option linter.unusedVariables false
set_option maxHeartbeats 8000000
set_option maxRecDepth 100000
