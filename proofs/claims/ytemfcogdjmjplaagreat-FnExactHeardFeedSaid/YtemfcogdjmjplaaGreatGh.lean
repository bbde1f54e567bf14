/- Contracts and plain laws: RA SAM SA SA2 SAF NW. -/
import Derived.Test.YtemfcogdjmjplaaGreatGu
import Derived.Test.YtemfcogdjmjplaaGreatGg
import Derived.Test.YtemfcogdjmjplaaGreatGw
import Derived.Test.YtemfcogdjmjplaaGreatGv
-- What a reader of a sector sees.
set_option linter.unusedSimpArgs false
set_option linter.unusedVariables false
namespace Go.Proofs.YtemfcogdjmjplaaGreat
open Go.RowKit Go.G8

end Go.Proofs.YtemfcogdjmjplaaGreat
namespace Go.G8
open Go.RowKit Go.Proofs.YtemfcogdjmjplaaGreat
end Go.G8
namespace Go.Proofs.YtemfcogdjmjplaaGreat
open Go.RowKit Go.G8
end Go.Proofs.YtemfcogdjmjplaaGreat

-- Snapshots in slots: the plain law.
set_option linter.unusedSimpArgs false
set_option linter.unusedVariables false
namespace Go.G8
open Go.RowKit Go.Proofs.YtemfcogdjmjplaaGreat

end Go.G8

-- Snapshots in slots: the program.
set_option linter.unusedSimpArgs false
set_option linter.unusedVariables false
namespace Go.Proofs.YtemfcogdjmjplaaGreat
open Go.RowKit Go.G8


end Go.Proofs.YtemfcogdjmjplaaGreat

-- Snapshots in slots: the reference (not built: runs past 150 s behind RowsShot).
set_option linter.unusedSimpArgs false
set_option linter.unusedVariables false
namespace Go.Proofs.YtemfcogdjmjplaaGreat
open Go.RowKit Go.G8

end Go.Proofs.YtemfcogdjmjplaaGreat

-- Snapshots in slots, as a function.
set_option linter.unusedSimpArgs false
set_option linter.unusedVariables false
namespace Go.Proofs.YtemfcogdjmjplaaGreat
open Go.RowKit Go.G8

end Go.Proofs.YtemfcogdjmjplaaGreat
namespace Go.G8
open Go.RowKit Go.Proofs.YtemfcogdjmjplaaGreat
end Go.G8
namespace Go.Proofs.YtemfcogdjmjplaaGreat
open Go.RowKit Go.G8
end Go.Proofs.YtemfcogdjmjplaaGreat

-- The newest snapshot (both).
set_option linter.unusedSimpArgs false
set_option linter.unusedVariables false
namespace Go.Proofs.YtemfcogdjmjplaaGreat
open Go.RowKit Go.G8

end Go.Proofs.YtemfcogdjmjplaaGreat
