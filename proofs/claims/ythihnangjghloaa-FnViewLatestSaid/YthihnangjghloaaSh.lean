/- Contracts and plain laws: RA SAM SA SA2 SAF NW. -/
import Derived.Test.YthihnangjghloaaSa
import Derived.Test.YthihnangjghloaaSu
import Derived.Test.YthihnangjghloaaSg
import Derived.Test.YthihnangjghloaaSw
import Derived.Test.YthihnangjghloaaSv
set_option linter.unusedSimpArgs false
set_option linter.unusedVariables false
-- What a reader of a sector sees.
set_option linter.unusedSimpArgs false
set_option linter.unusedVariables false
namespace Go.Proofs.Ythihnangjghloaa
open Go.RowKit Go.G8

end Go.Proofs.Ythihnangjghloaa
namespace Go.G8
open Go.RowKit Go.Proofs.Ythihnangjghloaa
end Go.G8
namespace Go.Proofs.Ythihnangjghloaa
open Go.RowKit Go.G8

end Go.Proofs.Ythihnangjghloaa

-- Snapshots in slots: the plain law.
set_option linter.unusedSimpArgs false
set_option linter.unusedVariables false
namespace Go.G8
open Go.RowKit Go.Proofs.Ythihnangjghloaa

end Go.G8

-- Snapshots in slots: the program.
set_option linter.unusedSimpArgs false
set_option linter.unusedVariables false
namespace Go.Proofs.Ythihnangjghloaa
open Go.RowKit Go.G8


end Go.Proofs.Ythihnangjghloaa

-- Snapshots in slots: the reference (not built: runs past 150 s behind RowsShot).
set_option linter.unusedSimpArgs false
set_option linter.unusedVariables false
namespace Go.Proofs.Ythihnangjghloaa
open Go.RowKit Go.G8


end Go.Proofs.Ythihnangjghloaa

-- Snapshots in slots, as a function.
set_option linter.unusedSimpArgs false
set_option linter.unusedVariables false
namespace Go.Proofs.Ythihnangjghloaa
open Go.RowKit Go.G8

end Go.Proofs.Ythihnangjghloaa
namespace Go.G8
open Go.RowKit Go.Proofs.Ythihnangjghloaa
end Go.G8
namespace Go.Proofs.Ythihnangjghloaa
open Go.RowKit Go.G8

end Go.Proofs.Ythihnangjghloaa

-- The newest snapshot (both).
set_option linter.unusedSimpArgs false
set_option linter.unusedVariables false
namespace Go.Proofs.Ythihnangjghloaa
open Go.RowKit Go.G8


end Go.Proofs.Ythihnangjghloaa
