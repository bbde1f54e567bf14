/- Contracts and plain laws: P6 ShM Un ShN Num3 Sh1 SR. -/
import Derived.Test.YthihnangjghloaaSa
import Derived.Test.YthihnangjghloaaSd
import Derived.Test.YthihnangjghloaaSf
import Derived.Test.YthihnangjghloaaSe
set_option linter.unusedSimpArgs false
set_option linter.unusedVariables false
-- Snapshots: right or not.
set_option linter.unusedSimpArgs false
set_option linter.unusedVariables false
namespace Go.Proofs.Ythihnangjghloaa
open Go.RowKit Go.G8


end Go.Proofs.Ythihnangjghloaa

-- Snapshots as rows: the plain law.
set_option linter.unusedSimpArgs false
set_option linter.unusedVariables false
namespace Go.G8
open Go.RowKit Go.Proofs.Ythihnangjghloaa

def parts (n : Nat) : Nat := (n + 19) / 20
end Go.G8

-- Rows without their checksum.
set_option linter.unusedSimpArgs false
set_option linter.unusedVariables false
namespace Go.Proofs.Ythihnangjghloaa
open Go.RowKit Go.G8

end Go.Proofs.Ythihnangjghloaa

-- Numbers that are read as a state: the plain law.
set_option linter.unusedSimpArgs false
set_option linter.unusedVariables false
namespace Go.G8
open Go.RowKit Go.Proofs.Ythihnangjghloaa

end Go.G8

-- The reference's numbers of states.
set_option linter.unusedSimpArgs false
set_option linter.unusedVariables false
namespace Go.Proofs.Ythihnangjghloaa
open Go.RowKit Go.G8

theorem OwnI.lit (w : World) (e : TypeId) (xs : List Int) (h : xs.length ≤ 1000) : OwnI w.heap.size e 1 (w.alloc (.cells (xs.map (Value.int .i64)).toArray e)) (.slice (some ⟨w.heap.size, 0, none⟩) xs.length xs.length) xs := by
 refine Own.of_blk (cap := xs.length) (Blk.new w _ _) (Nat.le_refl _) (by simp) (by simp) (Nat.le_refl _) (by unfold maxLen; omega) ?_
 intro j hj
 simp

end Go.Proofs.Ythihnangjghloaa

-- Snapshots as rows.
set_option linter.unusedSimpArgs false
set_option linter.unusedVariables false
namespace Go.Proofs.Ythihnangjghloaa
open Go.RowKit Go.G8

end Go.Proofs.Ythihnangjghloaa
namespace Go.G8
open Go.RowKit
end Go.G8
namespace Go.Proofs.Ythihnangjghloaa
open Go.RowKit Go.G8
end Go.Proofs.Ythihnangjghloaa

-- Equal rows.
set_option linter.unusedSimpArgs false
set_option linter.unusedVariables false
namespace Go.Proofs.Ythihnangjghloaa
open Go.RowKit Go.G8

end Go.Proofs.Ythihnangjghloaa
namespace Go.G8
open Go.RowKit
end Go.G8
namespace Go.Proofs.Ythihnangjghloaa
open Go.RowKit Go.G8

end Go.Proofs.Ythihnangjghloaa
