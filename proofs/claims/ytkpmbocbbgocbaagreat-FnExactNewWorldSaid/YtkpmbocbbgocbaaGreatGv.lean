/- ShM Un ShN Num3 P6 Sh1 SR. -/
import Derived.Test.YtkpmbocbbgocbaaGreatGa
import Derived.Test.YtkpmbocbbgocbaaGreatGf
import Derived.Test.YtkpmbocbbgocbaaGreatGe
import Derived.Test.YtkpmbocbbgocbaaGreatGd
set_option linter.unusedSimpArgs false
set_option linter.unusedVariables false
set_option maxHeartbeats 8000000
set_option maxRecDepth 100000
namespace Go.G8
open Go.RowKit Go.Proofs.YtkpmbocbbgocbaaGreat
def parts (n:Nat):Nat:=(n+19) / 20
end Go.G8
namespace Go.Proofs.YtkpmbocbbgocbaaGreat
open Go.RowKit Go.G8
theorem OwnI.lit (w:World) (e:TypeId) (xs:List Int) (h:xs.length≤1000):OwnI w.heap.size e 1 (w.alloc (.cells (xs.map (Value.int .i64)).toArray e)) (.slice (some ⟨w.heap.size,0,none⟩) xs.length xs.length) xs:=by
 refine Own.of_blk (cap:=xs.length) (Blk.new w _ _) (Nat.le_refl _) (by simp) (by simp) (Nat.le_refl _) (by unfold maxLen;omega) ?_
 intro j hj
 simp
end Go.Proofs.YtkpmbocbbgocbaaGreat
namespace Go.G8
open Go.RowKit
theorem Ints.part {w:World} {a:Option Addr} {cap:Nat} {xs:List Int} (h:Ints 1 w (.slice a xs.length cap) xs) {l m:Nat} (h1:l<m) (h2:m≤xs.length) (h3:xs.length≤cap):Ints 1 w (.slice (a.map (fun x=>x.add l)) (m - l) (cap - l)) ((xs.take m).drop l):=by
 have:=h.sliced (l:=l) (m:=m) (Nat.le_of_lt h1) h2
 unfold Go.sliced at this
 rw [if_neg oM,Nat.mul_one] at this
 exact this
end Go.G8
