/- WR SW. -/
import Derived.Test.YtkpmbocbbgocbaaGreatGa
import Derived.Test.YtkpmbocbbgocbaaGreatGu
import Derived.Test.YtkpmbocbbgocbaaGreatGh
import Derived.Test.YtkpmbocbbgocbaaGreatGi
set_option linter.unusedSimpArgs false
set_option linter.unusedVariables false
set_option maxHeartbeats 8000000
set_option maxRecDepth 100000
namespace Go.Proofs.YtkpmbocbbgocbaaGreat
open Go.RowKit Go.G8
section
variable {B:Nat} {w:World} {v:Value} {d:DDisk} {F:List Nat} {X:Nat} {cs:Array Value}
theorem OwDisk.keep {w':World} {B':Nat} (h:OwDisk B w v d F) (x:Chg B w w') (hb:B'≤B):OwDisk B' w' v d F:=let ⟨t0,t1,s0,s1,e,h0,h1,hd,hF⟩:=h;⟨t0,t1,s0,s1,e,(h0.keep x).mono hb,(h1.keep x).mono hb,hd,hF⟩
theorem OwDisk.box (h:OwDisk B w v d F) (hX:Blk w X 70 cs) (i:Nat) (u:Value):OwDisk B (w.setCell ⟨X,i,none⟩ u) v d F:=let ⟨t0,t1,s0,s1,e,h0,h1,hd,hF⟩:=h;⟨t0,t1,s0,s1,e,h0.box hX dC dC i u,h1.box hX dC dC i u,hd,hF⟩
theorem OwRows.box {l:List (List Int)} (h:OwRows B w v l F) (hX:Blk w X 70 cs) (i:Nat) (u:Value):OwRows B (w.setCell ⟨X,i,none⟩ u) v l F:=let ⟨s,h,e⟩:=h;⟨s,h.box hX dC dC i u,e⟩
end
end Go.Proofs.YtkpmbocbbgocbaaGreat
