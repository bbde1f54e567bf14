/- Schedulers: right or not. -/
import Derived.Test.YtfeddckbbhgpfaaV12
namespace Go.Proofs.Ytfeddckbbhgpfaa
open Go.RowKit Go.G8


end Go.Proofs.Ytfeddckbbhgpfaa
