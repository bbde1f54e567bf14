/- Open4. -/
import Derived.Test.YtkpmbocbbgocbaaGreatGa
import Derived.Test.YtkpmbocbbgocbaaGreatGc
import Derived.Test.YtkpmbocbbgocbaaGreatB3
set_option linter.unusedSimpArgs false
set_option linter.unusedVariables false
set_option maxHeartbeats 8000000
set_option maxRecDepth 100000
namespace Go.Proofs.YtkpmbocbbgocbaaGreat
open Go.ChangeShapes Go.WideShapes Go.ChangeAt Go.RowKit Go.G8
theorem cc_Want:Tryz.prog.cellsOf 175=7:=by kernel_rfl
section
variable {H:Type} {enc:TypeId × Value→H} {W:World} {base:Nat} {sp:Nat→Bool} {held:Bool}
theorem rl_Want {fuel:Nat} {cs:List Value} {x:DataW H × List MemPlace} (h:DataW.trod enc Tryz.prog W base sp held fuel 175 cs=some x):∃ (c0:Int) (c1:Int) (c2:Int) (c3:Int) (c4:Int) (c5:Int) (c6:Int),cs=[.int .i64 c0,.int .i64 c1,.int .i64 c2,.int .i64 c3,.int .i64 c4,.int .i64 c5,.int .i64 c6]:=by
 have hl:=rd_len Tryz.underlying175 h
 rw [cc_Want] at hl
 obtain⟨v0,v1,v2,v3,v4,v5,v6,rfl⟩:∃ v0 v1 v2 v3 v4 v5 v6,cs=[v0,v1,v2,v3,v4,v5,v6]:=by match cs,hl with|[v0,v1,v2,v3,v4,v5,v6],_=>exact⟨v0,v1,v2,v3,v4,v5,v6,rfl⟩
 obtain⟨n0,y0,h0⟩:=rd_field Tryz.underlying175 h 0 _ rfl
 obtain⟨n1,y1,h1⟩:=rd_field Tryz.underlying175 h 1 _ rfl
 obtain⟨n2,y2,h2⟩:=rd_field Tryz.underlying175 h 2 _ rfl
 simp [cc_Int64,cc_Op] at h0 h1 h2
 obtain⟨a0,e0,_⟩:=DataW.trod_int Tryz.underlying2 h0
 simp at e0
 subst e0
 obtain⟨z1c0,z1c1,z1c2,z1c3,z1c4,e1⟩:=rl_Op h1
 simp at e1
 obtain⟨e1_0,e1_1,e1_2,e1_3,e1_4⟩:=e1
 subst e1_0;subst e1_1;subst e1_2;subst e1_3;subst e1_4
 obtain⟨a6,e6,_⟩:=DataW.trod_int Tryz.underlying2 h2
 simp at e6
 subst e6
 exact⟨a0,_,_,_,_,_,a6,rfl⟩
theorem rl_WantS {fuel:Nat} {cs:List Value} {x:DataW H × List MemPlace} (h:DataW.trod enc Tryz.prog W base sp held fuel 54 cs=some x):∃ (s:Value) (l:List DWant),cs=[s]∧Ints 7 W s (flWant l):=by
 rcases Deep.open_slice Tryz.underlying54 h with ⟨rfl,_⟩|⟨a,len,cap,m,n,D,Pl,rfl,hb,hl,hm,hmm,_,hx⟩
 ·
  exact⟨_,[],rfl,Ints.nil 7 W⟩
 have hlm:len≤m:=by rw [hmm];split <;> omega
 obtain⟨l,_,hi⟩:=Ints.of_each (f:=DWant.ints) (n:=7) (fun _=>rfl) dC (w:=W) (a:=a) hl hm (fun i hi=>by
  obtain⟨cs',hc,ht⟩:=hx i oM
  rw [cc_Want] at hc
  obtain⟨b0,b1,b2,b3,b4,b5,b6,rfl⟩:=rl_Want ht
  obtain⟨_,_,hcell⟩:=World.cells?_some hc
  refine⟨⟨b0,⟨b1,b2,b3,b4,b5⟩,b6⟩,fun j u hu=>?_⟩
  have hj:j<7:=by
   rcases Nat.lt_or_ge j 7 with h'|h'
   ·
    exact h'
   rw [List.getElem?_eq_none (by simpa [DWant.ints] using h')] at hu;cases hu
  rw [hcell j hj]
  match j,hj,hu with
  | 0,_,hu=>simpa [DWant.ints] using hu
  | 1,_,hu=>simpa [DWant.ints] using hu
  | 2,_,hu=>simpa [DWant.ints] using hu
  | 3,_,hu=>simpa [DWant.ints] using hu
  | 4,_,hu=>simpa [DWant.ints] using hu
  | 5,_,hu=>simpa [DWant.ints] using hu
  | 6,_,hu=>simpa [DWant.ints] using hu)
 exact⟨_,l,rfl,hi⟩
end
end Go.Proofs.YtkpmbocbbgocbaaGreat
