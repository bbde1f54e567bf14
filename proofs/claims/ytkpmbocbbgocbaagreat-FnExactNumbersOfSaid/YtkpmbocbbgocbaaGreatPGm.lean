/- WR SW. -/
import Derived.Test.YtkpmbocbbgocbaaGreatPGi
import Derived.Test.YtkpmbocbbgocbaaGreatPGh
set_option linter.unusedSimpArgs false
set_option linter.unusedVariables false
set_option maxHeartbeats 8000000
set_option maxRecDepth 100000
namespace Go.Proofs.YtkpmbocbbgocbaaGreat
open Go.RowKit Go.G8
section
variable {B:Nat} {w:World} {v:Value} {d:EI} {F:List Nat} {X:Nat} {cs:Array Value}
theorem EL.keep{w':World}{B':Nat}(h:EL B w v d F)(x:Chg B w w')(hb:B'<=B):EL B' w' v d F:=let ⟨t0,t1,s0,s1,e,h0,h1,hd,hF⟩:=h;⟨t0,t1,s0,s1,e,(h0.keep x).mono hb,(h1.keep x).mono hb,hd,hF⟩
theorem EL.box(h:EL B w v d F)(hX:Blk w X 70 cs)(i:Nat)(u:Value):EL B (w.setCell ⟨X,i,none⟩ u) v d F:=let ⟨t0,t1,s0,s1,e,h0,h1,hd,hF⟩:=h;⟨t0,t1,s0,s1,e,h0.box hX dC dC i u,h1.box hX dC dC i u,hd,hF⟩
theorem IK.box{l:List (List Int)}(h:IK B w v l F)(hX:Blk w X 70 cs)(i:Nat)(u:Value):IK B (w.setCell ⟨X,i,none⟩ u) v l F:=let ⟨s,h,e⟩:=h;⟨s,h.box hX dC dC i u,e⟩
end
end Go.Proofs.YtkpmbocbbgocbaaGreat
