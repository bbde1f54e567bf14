/- Views: copies. -/
import Derived.Test.YtfeddckbbhgpfaaV9
namespace Go.Proofs.Ytfeddckbbhgpfaa
open Go.RowKit Go.G8

end Go.Proofs.Ytfeddckbbhgpfaa
