/- Snapshots: right or not. -/
import Derived.Test.YtankkbjlneeolaaP5
namespace Go.Proofs.Ytankkbjlneeolaa
open Go.RowKit Go.G8


end Go.Proofs.Ytankkbjlneeolaa
