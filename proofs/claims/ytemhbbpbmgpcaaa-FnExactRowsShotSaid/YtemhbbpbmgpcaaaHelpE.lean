/- HelpE: contracts of the statements' helper functions on disks: marks. -/
import Derived.Test.YtemhbbpbmgpcaaaHelpD
namespace Go.Proofs.Ytemhbbpbmgpcaaa
open Go.RowKit Go.G8


end Go.Proofs.Ytemhbbpbmgpcaaa
