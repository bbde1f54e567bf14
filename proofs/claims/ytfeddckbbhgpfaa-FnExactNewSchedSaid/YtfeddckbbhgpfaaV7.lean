/- Views: free, and held by one. -/
import Derived.Test.YtfeddckbbhgpfaaV6
namespace Go.Proofs.Ytfeddckbbhgpfaa
open Go.RowKit Go.G8

noncomputable def freeIn (v : DView) (now : Int) : Bool := decide (0 ≤ guessOf v now) && (decide (v.Jobs.Holder = 0) || decide (v.Jobs.Until ≤ guessOf v now))
noncomputable def holdsIn (v : DView) (id now : Int) : Bool := decide (0 ≤ guessOf v now) && (schedOk id && (decide (v.Jobs.Holder = id) && decide (guessOf v now < v.Jobs.Until)))

end Go.Proofs.Ytfeddckbbhgpfaa
