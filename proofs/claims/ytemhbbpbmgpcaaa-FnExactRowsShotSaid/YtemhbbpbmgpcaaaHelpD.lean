/- HelpD: contracts of the statements' helper functions on disks. -/
import Derived.Test.YtemhbbpbmgpcaaaHelpC
namespace Go.Proofs.Ytemhbbpbmgpcaaa
open Go.RowKit Go.G8




end Go.Proofs.Ytemhbbpbmgpcaaa
