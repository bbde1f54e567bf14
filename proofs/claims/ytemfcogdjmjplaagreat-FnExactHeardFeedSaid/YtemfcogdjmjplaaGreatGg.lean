/- Contracts and plain laws: RS Cu Cu2 NS RS2 NS2 NS3 RS3 RS4. -/
import Derived.Test.YtemfcogdjmjplaaGreatGv
import Derived.Test.YtemfcogdjmjplaaGreatGe
import Derived.Test.YtemfcogdjmjplaaGreatGd
import Derived.Test.YtemfcogdjmjplaaGreatGf
import Derived.Test.YtemfcogdjmjplaaGreatGb
-- The parts of a snapshot's rows.
set_option linter.unusedSimpArgs false
set_option linter.unusedVariables false
namespace Go.Proofs.YtemfcogdjmjplaaGreat
open Go.RowKit Go.G8

end Go.Proofs.YtemfcogdjmjplaaGreat
namespace Go.G8
open Go.RowKit
end Go.G8
namespace Go.Proofs.YtemfcogdjmjplaaGreat
open Go.RowKit Go.G8
end Go.Proofs.YtemfcogdjmjplaaGreat

-- The cursor that reads.
set_option linter.unusedSimpArgs false
set_option linter.unusedVariables false
namespace Go.Proofs.YtemfcogdjmjplaaGreat
open Go.RowKit Go.G8


end Go.Proofs.YtemfcogdjmjplaaGreat

-- Pairs and jobs off the cursor.
set_option linter.unusedSimpArgs false
set_option linter.unusedVariables false
namespace Go.Proofs.YtemfcogdjmjplaaGreat
open Go.RowKit Go.G8

end Go.Proofs.YtemfcogdjmjplaaGreat
namespace Go.G8
open Go.RowKit
end Go.G8
namespace Go.Proofs.YtemfcogdjmjplaaGreat
open Go.RowKit Go.G8

end Go.Proofs.YtemfcogdjmjplaaGreat

-- Numbers read as a state: the program.
set_option linter.unusedSimpArgs false
set_option linter.unusedVariables false
namespace Go.Proofs.YtemfcogdjmjplaaGreat
open Go.RowKit Go.G8

end Go.Proofs.YtemfcogdjmjplaaGreat

-- Snapshots read off their rows: the program.
set_option linter.unusedSimpArgs false
set_option linter.unusedVariables false
namespace Go.Proofs.YtemfcogdjmjplaaGreat
open Go.RowKit Go.G8

end Go.Proofs.YtemfcogdjmjplaaGreat
namespace Go.G8
open Go.RowKit Go.Proofs.YtemfcogdjmjplaaGreat
end Go.G8
namespace Go.Proofs.YtemfcogdjmjplaaGreat
open Go.RowKit Go.G8

end Go.Proofs.YtemfcogdjmjplaaGreat

-- Rows of pairs and jobs read: the reference.
set_option linter.unusedSimpArgs false
set_option linter.unusedVariables false
namespace Go.Proofs.YtemfcogdjmjplaaGreat
open Go.RowKit Go.G8

end Go.Proofs.YtemfcogdjmjplaaGreat

-- Numbers read as a state: the reference.
set_option linter.unusedSimpArgs false
set_option linter.unusedVariables false
namespace Go.Proofs.YtemfcogdjmjplaaGreat
open Go.RowKit Go.G8

end Go.Proofs.YtemfcogdjmjplaaGreat
namespace Go.G8
open Go.RowKit Go.Proofs.YtemfcogdjmjplaaGreat
end Go.G8
namespace Go.Proofs.YtemfcogdjmjplaaGreat
open Go.RowKit Go.G8
end Go.Proofs.YtemfcogdjmjplaaGreat

-- Snapshots read off their rows: the reference.
set_option linter.unusedSimpArgs false
set_option linter.unusedVariables false
namespace Go.Proofs.YtemfcogdjmjplaaGreat
open Go.RowKit Go.G8

end Go.Proofs.YtemfcogdjmjplaaGreat
namespace Go.G8
open Go.RowKit Go.Proofs.YtemfcogdjmjplaaGreat
end Go.G8
namespace Go.Proofs.YtemfcogdjmjplaaGreat
open Go.RowKit Go.G8
end Go.Proofs.YtemfcogdjmjplaaGreat

-- Snapshots read off their rows, as a function.
set_option linter.unusedSimpArgs false
set_option linter.unusedVariables false
namespace Go.Proofs.YtemfcogdjmjplaaGreat
open Go.RowKit Go.G8

end Go.Proofs.YtemfcogdjmjplaaGreat
namespace Go.G8
open Go.RowKit Go.Proofs.YtemfcogdjmjplaaGreat
end Go.G8
namespace Go.Proofs.YtemfcogdjmjplaaGreat
open Go.RowKit Go.G8
end Go.Proofs.YtemfcogdjmjplaaGreat
