/- Open Facts Open2 Open3. -/
import Derived.Test.YtkpmbocbbgocbaaGreatPGb
import Derived.ProofKit
import Derived.OpenShut
import Derived.ChangeOld
import Derived.Deep.Slices
import Derived.JoinedOf
set_option linter.unusedSimpArgs false
set_option linter.unusedVariables false
set_option maxHeartbeats 8000000
set_option maxRecDepth 100000
namespace Go.Proofs.YtkpmbocbbgocbaaGreat
open Go.ChangeShapes Go.WideShapes Go.ChangeAt Go.RowKit Go.G8
theorem own:ownKnob Tryz.prog.godebug=none:=by kernel_rfl
theorem cC8:laidOutB Tryz.prog=true:=by kernel_rfl
section
variable {H:Type} {enc:TypeId × Value->H} {W:World} {base:Nat} {sp:Nat->Bool} {held:Bool}
theorem Bw{t:TypeId}{fs:Array Field}{fuel:Nat}{cs:List Value}{x:DataW H × List MemPlace}(ht:Tryz.prog.underlying t=some (.struct fs))(h:DataW.trod enc Tryz.prog W base sp held fuel t cs=some x)
  (i:Nat) (f:Field) (hf:fs[i]?=some f):∃n y,DataW.trod enc Tryz.prog W base sp held n f.type ((cs.drop f.offset).take (Tryz.prog.cellsOf f.type))=some y:=by
 obtain⟨xs,n,_,_,_,hl,hr⟩:=DataW.trod_struct ht h
 have h1:=hr i f hf
 have hi:i<xs.length:=by
  rw[hl]
  rcases Nat.lt_or_ge i fs.size with h'|h'
  .
   exact h'
  rw[Array.getElem?_eq_none h'] at hf;cases hf
 rw[List.getElem?_eq_getElem hi] at h1
 exact⟨n,_,h1⟩
theorem FR{t:TypeId}{fs:Array Field}{fuel:Nat}{cs:List Value}{x:DataW H × List MemPlace}(ht:Tryz.prog.underlying t=some (.struct fs))(h:DataW.trod enc Tryz.prog W base sp held fuel t cs=some x):cs.length=Tryz.prog.cellsOf t:=by
 obtain⟨xs,n,_,_,hl,_,_⟩:=DataW.trod_struct ht h
 exact hl
end
end Go.Proofs.YtkpmbocbbgocbaaGreat
namespace Go.Proofs.YtkpmbocbbgocbaaGreat.facts
theorem b2{a b:Bool}(ha:a=true)(hb:b=true):(a&&b)=true:=by rw[ha,hb];rfl
theorem k1:(laidOutB Tryz.checked.prog)=true:=by kernel_rfl
theorem k2:(mapsRowed Tryz.checked.prog)=true:=by kernel_rfl
theorem k6:((Tryz.checked.prog.stops == []))=true:=by kernel_rfl
theorem k8:((Tryz.checked.prog.stopKnobs == []))=true:=by kernel_rfl
theorem k22:((Rows.fnExactSameWorldRow.plainKeys == Tryz.checked.prog.plainKeys))=true:=by kernel_rfl
theorem k24:(Tryz.checked.prog.stopsHeard)=true:=by kernel_rfl
theorem k25:(Tryz.checked.prog.mayEnter)=true:=by kernel_rfl
theorem k26:((Rows.fnExactSameWorldRow.lifted == Tryz.checked.prog.liftsFinal))=true:=by kernel_rfl
theorem k27:((Tryz.checked.prog.make == some Rows.fnExactSameWorldRow.make))=true:=by kernel_rfl
end Go.Proofs.YtkpmbocbbgocbaaGreat.facts
namespace Go.Proofs.YtkpmbocbbgocbaaGreat
open Go.ChangeShapes Go.WideShapes Go.ChangeAt Go.RowKit Go.G8
theorem BJ:Tryz.prog.cellsOf 2=1:=by kernel_rfl
theorem aI5:Tryz.prog.cellsOf 4=1:=by kernel_rfl
theorem bO1:Tryz.prog.cellsOf 406=2:=by kernel_rfl
theorem bA3:Tryz.prog.cellsOf 364=2:=by kernel_rfl
theorem bO2:Tryz.prog.cellsOf 368=5:=by kernel_rfl
theorem bA4:Tryz.prog.cellsOf 51=5:=by kernel_rfl
theorem aN4:Tryz.prog.cellsOf 40=3:=by kernel_rfl
theorem aN5:Tryz.prog.cellsOf 359=9:=by kernel_rfl
theorem bO3:Tryz.prog.cellsOf 294=4:=by kernel_rfl
theorem UI:Tryz.prog.cellsOf 62=1:=by kernel_rfl
theorem cC9:Tryz.prog.cellsOf 45=1:=by kernel_rfl
theorem bO4:Tryz.prog.cellsOf 37=1:=by kernel_rfl
theorem cD0:Tryz.prog.cellsOf 38=1:=by kernel_rfl
theorem bE8:Tryz.prog.cellsOf 31=1:=by kernel_rfl
theorem bA5:Tryz.prog.cellsOf 47=6:=by kernel_rfl
theorem bA6:Tryz.prog.cellsOf 49=6:=by kernel_rfl
theorem ZU:Tryz.prog.cellsOf 53=15:=by kernel_rfl
theorem aN6:Tryz.prog.cellsOf 42=7:=by kernel_rfl
section
variable {H:Type} {enc:TypeId × Value->H} {W:World} {base:Nat} {sp:Nat->Bool} {held:Bool}
theorem cJ0{fuel:Nat}{cs:List Value}{x:DataW H × List MemPlace}(h:DataW.trod enc Tryz.prog W base sp held fuel 406 cs=some x):∃(c0:Int) (c1:Int),cs=[.int .i64 c0,.int .i64 c1]:=by
 have hl:=FR Tryz.underlying406 h
 rw[bO1] at hl
 obtain⟨v0,v1,rfl⟩:∃v0 v1,cs=[v0,v1]:=by match cs,hl with|[v0,v1],_=>exact⟨v0,v1,rfl⟩
 obtain⟨n0,y0,h0⟩:=Bw Tryz.underlying406 h 0 _ rfl
 obtain⟨n1,y1,h1⟩:=Bw Tryz.underlying406 h 1 _ rfl
 simp[BJ] at h0 h1
 obtain⟨a0,e0,_⟩:=DataW.trod_int Tryz.underlying2 h0
 simp at e0
 subst e0
 obtain⟨a1,e1,_⟩:=DataW.trod_int Tryz.underlying2 h1
 simp at e1
 subst e1
 exact⟨a0,a1,rfl⟩
theorem cD1{fuel:Nat}{cs:List Value}{x:DataW H × List MemPlace}(h:DataW.trod enc Tryz.prog W base sp held fuel 364 cs=some x):∃(c0:Int) (c1:Int),cs=[.int .i64 c0,.int .i64 c1]:=by
 have hl:=FR Tryz.underlying364 h
 rw[bA3] at hl
 obtain⟨v0,v1,rfl⟩:∃v0 v1,cs=[v0,v1]:=by match cs,hl with|[v0,v1],_=>exact⟨v0,v1,rfl⟩
 obtain⟨n0,y0,h0⟩:=Bw Tryz.underlying364 h 0 _ rfl
 obtain⟨n1,y1,h1⟩:=Bw Tryz.underlying364 h 1 _ rfl
 simp[BJ] at h0 h1
 obtain⟨a0,e0,_⟩:=DataW.trod_int Tryz.underlying2 h0
 simp at e0
 subst e0
 obtain⟨a1,e1,_⟩:=DataW.trod_int Tryz.underlying2 h1
 simp at e1
 subst e1
 exact⟨a0,a1,rfl⟩
theorem cJ1{fuel:Nat}{cs:List Value}{x:DataW H × List MemPlace}(h:DataW.trod enc Tryz.prog W base sp held fuel 368 cs=some x):∃(c0:Int) (c1:Int) (c2:Int) (c3:Int) (c4:Int),cs=[.int .i64 c0,.int .i64 c1,.int .i64 c2,.int .i64 c3,.int .i64 c4]:=by
 have hl:=FR Tryz.underlying368 h
 rw[bO2] at hl
 obtain⟨v0,v1,v2,v3,v4,rfl⟩:∃v0 v1 v2 v3 v4,cs=[v0,v1,v2,v3,v4]:=by match cs,hl with|[v0,v1,v2,v3,v4],_=>exact⟨v0,v1,v2,v3,v4,rfl⟩
 obtain⟨n0,y0,h0⟩:=Bw Tryz.underlying368 h 0 _ rfl
 obtain⟨n1,y1,h1⟩:=Bw Tryz.underlying368 h 1 _ rfl
 obtain⟨n2,y2,h2⟩:=Bw Tryz.underlying368 h 2 _ rfl
 obtain⟨n3,y3,h3⟩:=Bw Tryz.underlying368 h 3 _ rfl
 obtain⟨n4,y4,h4⟩:=Bw Tryz.underlying368 h 4 _ rfl
 simp[BJ] at h0 h1 h2 h3 h4
 obtain⟨a0,e0,_⟩:=DataW.trod_int Tryz.underlying2 h0
 simp at e0
 subst e0
 obtain⟨a1,e1,_⟩:=DataW.trod_int Tryz.underlying2 h1
 simp at e1
 subst e1
 obtain⟨a2,e2,_⟩:=DataW.trod_int Tryz.underlying2 h2
 simp at e2
 subst e2
 obtain⟨a3,e3,_⟩:=DataW.trod_int Tryz.underlying2 h3
 simp at e3
 subst e3
 obtain⟨a4,e4,_⟩:=DataW.trod_int Tryz.underlying2 h4
 simp at e4
 subst e4
 exact⟨a0,a1,a2,a3,a4,rfl⟩
theorem bO5{fuel:Nat}{cs:List Value}{x:DataW H × List MemPlace}(h:DataW.trod enc Tryz.prog W base sp held fuel 51 cs=some x):∃(c0:Int) (c1:Int) (c2:Int) (c3:Int) (c4:Int),cs=[.int .i64 c0,.int .i64 c1,.int .i64 c2,.int .i64 c3,.int .i64 c4]:=by
 have hl:=FR Tryz.underlying51 h
 rw[bA4] at hl
 obtain⟨v0,v1,v2,v3,v4,rfl⟩:∃v0 v1 v2 v3 v4,cs=[v0,v1,v2,v3,v4]:=by match cs,hl with|[v0,v1,v2,v3,v4],_=>exact⟨v0,v1,v2,v3,v4,rfl⟩
 obtain⟨n0,y0,h0⟩:=Bw Tryz.underlying51 h 0 _ rfl
 obtain⟨n1,y1,h1⟩:=Bw Tryz.underlying51 h 1 _ rfl
 obtain⟨n2,y2,h2⟩:=Bw Tryz.underlying51 h 2 _ rfl
 obtain⟨n3,y3,h3⟩:=Bw Tryz.underlying51 h 3 _ rfl
 obtain⟨n4,y4,h4⟩:=Bw Tryz.underlying51 h 4 _ rfl
 simp[BJ] at h0 h1 h2 h3 h4
 obtain⟨a0,e0,_⟩:=DataW.trod_int Tryz.underlying2 h0
 simp at e0
 subst e0
 obtain⟨a1,e1,_⟩:=DataW.trod_int Tryz.underlying2 h1
 simp at e1
 subst e1
 obtain⟨a2,e2,_⟩:=DataW.trod_int Tryz.underlying2 h2
 simp at e2
 subst e2
 obtain⟨a3,e3,_⟩:=DataW.trod_int Tryz.underlying2 h3
 simp at e3
 subst e3
 obtain⟨a4,e4,_⟩:=DataW.trod_int Tryz.underlying2 h4
 simp at e4
 subst e4
 exact⟨a0,a1,a2,a3,a4,rfl⟩
theorem bO6{fuel:Nat}{cs:List Value}{x:DataW H × List MemPlace}(h:DataW.trod enc Tryz.prog W base sp held fuel 40 cs=some x):∃(c0:Int) (c1:Int) (c2:Int),cs=[.int .i64 c0,.int .i64 c1,.int .i64 c2]:=by
 have hl:=FR Tryz.underlying40 h
 rw[aN4] at hl
 obtain⟨v0,v1,v2,rfl⟩:∃v0 v1 v2,cs=[v0,v1,v2]:=by match cs,hl with|[v0,v1,v2],_=>exact⟨v0,v1,v2,rfl⟩
 obtain⟨n0,y0,h0⟩:=Bw Tryz.underlying40 h 0 _ rfl
 obtain⟨n1,y1,h1⟩:=Bw Tryz.underlying40 h 1 _ rfl
 obtain⟨n2,y2,h2⟩:=Bw Tryz.underlying40 h 2 _ rfl
 simp[BJ] at h0 h1 h2
 obtain⟨a0,e0,_⟩:=DataW.trod_int Tryz.underlying2 h0
 simp at e0
 subst e0
 obtain⟨a1,e1,_⟩:=DataW.trod_int Tryz.underlying2 h1
 simp at e1
 subst e1
 obtain⟨a2,e2,_⟩:=DataW.trod_int Tryz.underlying2 h2
 simp at e2
 subst e2
 exact⟨a0,a1,a2,rfl⟩
theorem bO7{fuel:Nat}{cs:List Value}{x:DataW H × List MemPlace}(h:DataW.trod enc Tryz.prog W base sp held fuel 359 cs=some x):∃(c0:Int) (c1:Int) (c2:Int) (c3:Int) (c4:Int) (c5:Int) (c6:Int) (c7:Int) (c8:Int),cs=[.int .i64 c0,.int .i64 c1,.int .i64 c2,.int .i64 c3,.int .i64 c4,.int .i64 c5,.int .i64 c6,.int .i64 c7,.int .i64 c8]:=by
 have hl:=FR Tryz.underlying359 h
 rw[aN5] at hl
 obtain⟨v0,v1,v2,v3,v4,v5,v6,v7,v8,rfl⟩:∃v0 v1 v2 v3 v4 v5 v6 v7 v8,cs=[v0,v1,v2,v3,v4,v5,v6,v7,v8]:=by match cs,hl with|[v0,v1,v2,v3,v4,v5,v6,v7,v8],_=>exact⟨v0,v1,v2,v3,v4,v5,v6,v7,v8,rfl⟩
 obtain⟨n0,y0,h0⟩:=Bw Tryz.underlying359 h 0 _ rfl
 obtain⟨n1,y1,h1⟩:=Bw Tryz.underlying359 h 1 _ rfl
 obtain⟨n2,y2,h2⟩:=Bw Tryz.underlying359 h 2 _ rfl
 obtain⟨n3,y3,h3⟩:=Bw Tryz.underlying359 h 3 _ rfl
 obtain⟨n4,y4,h4⟩:=Bw Tryz.underlying359 h 4 _ rfl
 simp[BJ,bA4] at h0 h1 h2 h3 h4
 obtain⟨a0,e0,_⟩:=DataW.trod_int Tryz.underlying2 h0
 simp at e0
 subst e0
 obtain⟨a1,e1,_⟩:=DataW.trod_int Tryz.underlying2 h1
 simp at e1
 subst e1
 obtain⟨a2,e2,_⟩:=DataW.trod_int Tryz.underlying2 h2
 simp at e2
 subst e2
 obtain⟨a3,e3,_⟩:=DataW.trod_int Tryz.underlying2 h3
 simp at e3
 subst e3
 obtain⟨z4c0,z4c1,z4c2,z4c3,z4c4,e4⟩:=bO5 h4
 simp at e4
 obtain⟨cN6,cN7,cN8,cS7,cS8⟩:=e4
 subst cN6;subst cN7;subst cN8;subst cS7;subst cS8
 exact⟨a0,a1,a2,a3,_,_,_,_,_,rfl⟩
theorem cJ2{fuel:Nat}{cs:List Value}{x:DataW H × List MemPlace}(h:DataW.trod enc Tryz.prog W base sp held fuel 294 cs=some x):∃(c0:Int) (c1:Int) (c2:Int) (c3:Int),cs=[.int .i64 c0,.int .i64 c1,.int .i64 c2,.int .i64 c3]:=by
 have hl:=FR Tryz.underlying294 h
 rw[bO3] at hl
 obtain⟨v0,v1,v2,v3,rfl⟩:∃v0 v1 v2 v3,cs=[v0,v1,v2,v3]:=by match cs,hl with|[v0,v1,v2,v3],_=>exact⟨v0,v1,v2,v3,rfl⟩
 obtain⟨n0,y0,h0⟩:=Bw Tryz.underlying294 h 0 _ rfl
 obtain⟨n1,y1,h1⟩:=Bw Tryz.underlying294 h 1 _ rfl
 obtain⟨n2,y2,h2⟩:=Bw Tryz.underlying294 h 2 _ rfl
 obtain⟨n3,y3,h3⟩:=Bw Tryz.underlying294 h 3 _ rfl
 simp[BJ] at h0 h1 h2 h3
 obtain⟨a0,e0,_⟩:=DataW.trod_int Tryz.underlying2 h0
 simp at e0
 subst e0
 obtain⟨a1,e1,_⟩:=DataW.trod_int Tryz.underlying2 h1
 simp at e1
 subst e1
 obtain⟨a2,e2,_⟩:=DataW.trod_int Tryz.underlying2 h2
 simp at e2
 subst e2
 obtain⟨a3,e3,_⟩:=DataW.trod_int Tryz.underlying2 h3
 simp at e3
 subst e3
 exact⟨a0,a1,a2,a3,rfl⟩
theorem UJ{fuel:Nat}{cs:List Value}{x:DataW H × List MemPlace}(h:DataW.trod enc Tryz.prog W base sp held fuel 62 cs=some x):∃(s:Value) (l:List Int),cs=[s]/\Aw 1 W s l:=by
 rcases Deep.open_slice Tryz.underlying62 h with⟨rfl,_⟩|⟨a,len,cap,m,n,D,Pl,rfl,hb,hl,hm,hmm,_,hx⟩
 .
  exact⟨_,[],rfl,Aw.nil 1 W⟩
 have hlm:len<=m:=by rw[hmm];split <;> omega
 obtain⟨l,_,hi⟩:=Aw.of_each (f:=fun x:Int=>[x]) (n:=1) (fun _=>rfl) dC (w:=W) (a:=a) hl hm (fun i hi=>by
  obtain⟨cs',hc,ht⟩:=hx i oM
  rw[BJ] at hc
  obtain⟨d,rfl,_⟩:=DataW.trod_int Tryz.underlying2 ht
  obtain⟨_,_,hcell⟩:=World.cells?_some hc
  refine⟨d,fun j u hu=>?_⟩
  have hj:j<1:=by
   rcases Nat.lt_or_ge j 1 with h'|h'
   .
    exact h'
   rw[List.getElem?_eq_none (by simpa using h')] at hu;cases hu
  rw[hcell j hj]
  obtain rfl:j=0:=by omega
  simp at hu
  simp[hu])
 rw[show l.flatMap (fun x:Int=>[x])=l by simp] at hi
 exact⟨_,l,rfl,hi⟩
theorem cD2{fuel:Nat}{cs:List Value}{x:DataW H × List MemPlace}(h:DataW.trod enc Tryz.prog W base sp held fuel 45 cs=some x):∃(s:Value) (l:List DO),cs=[s]/\Aw 2 W s (KF l):=by
 rcases Deep.open_slice Tryz.underlying45 h with⟨rfl,_⟩|⟨a,len,cap,m,n,D,Pl,rfl,hb,hl,hm,hmm,_,hx⟩
 .
  exact⟨_,[],rfl,Aw.nil 2 W⟩
 have hlm:len<=m:=by rw[hmm];split <;> omega
 obtain⟨l,_,hi⟩:=Aw.of_each (f:=DO.ints) (n:=2) (fun _=>rfl) dC (w:=W) (a:=a) hl hm (fun i hi=>by
  obtain⟨cs',hc,ht⟩:=hx i oM
  rw[bO1] at hc
  obtain⟨b0,b1,rfl⟩:=cJ0 ht
  obtain⟨_,_,hcell⟩:=World.cells?_some hc
  refine⟨⟨b0,b1⟩,fun j u hu=>?_⟩
  have hj:j<2:=by
   rcases Nat.lt_or_ge j 2 with h'|h'
   .
    exact h'
   rw[List.getElem?_eq_none (by simpa[DO.ints] using h')] at hu;cases hu
  rw[hcell j hj]
  match j,hj,hu with
  | 0,_,hu=>simpa[DO.ints] using hu
  | 1,_,hu=>simpa[DO.ints] using hu)
 exact⟨_,l,rfl,hi⟩
theorem bO8{fuel:Nat}{cs:List Value}{x:DataW H × List MemPlace}(h:DataW.trod enc Tryz.prog W base sp held fuel 37 cs=some x):∃(s:Value) (l:List AP),cs=[s]/\Aw 2 W s (wI l):=by
 rcases Deep.open_slice Tryz.underlying37 h with⟨rfl,_⟩|⟨a,len,cap,m,n,D,Pl,rfl,hb,hl,hm,hmm,_,hx⟩
 .
  exact⟨_,[],rfl,Aw.nil 2 W⟩
 have hlm:len<=m:=by rw[hmm];split <;> omega
 obtain⟨l,_,hi⟩:=Aw.of_each (f:=AP.ints) (n:=2) (fun _=>rfl) dC (w:=W) (a:=a) hl hm (fun i hi=>by
  obtain⟨cs',hc,ht⟩:=hx i oM
  rw[bA3] at hc
  obtain⟨b0,b1,rfl⟩:=cD1 ht
  obtain⟨_,_,hcell⟩:=World.cells?_some hc
  refine⟨⟨b0,b1⟩,fun j u hu=>?_⟩
  have hj:j<2:=by
   rcases Nat.lt_or_ge j 2 with h'|h'
   .
    exact h'
   rw[List.getElem?_eq_none (by simpa[AP.ints] using h')] at hu;cases hu
  rw[hcell j hj]
  match j,hj,hu with
  | 0,_,hu=>simpa[AP.ints] using hu
  | 1,_,hu=>simpa[AP.ints] using hu)
 exact⟨_,l,rfl,hi⟩
theorem cD3{fuel:Nat}{cs:List Value}{x:DataW H × List MemPlace}(h:DataW.trod enc Tryz.prog W base sp held fuel 38 cs=some x):∃(s:Value) (l:List DI),cs=[s]/\Aw 5 W s (AQ l):=by
 rcases Deep.open_slice Tryz.underlying38 h with⟨rfl,_⟩|⟨a,len,cap,m,n,D,Pl,rfl,hb,hl,hm,hmm,_,hx⟩
 .
  exact⟨_,[],rfl,Aw.nil 5 W⟩
 have hlm:len<=m:=by rw[hmm];split <;> omega
 obtain⟨l,_,hi⟩:=Aw.of_each (f:=DI.ints) (n:=5) (fun _=>rfl) dC (w:=W) (a:=a) hl hm (fun i hi=>by
  obtain⟨cs',hc,ht⟩:=hx i oM
  rw[bO2] at hc
  obtain⟨b0,b1,b2,b3,b4,rfl⟩:=cJ1 ht
  obtain⟨_,_,hcell⟩:=World.cells?_some hc
  refine⟨⟨b0,b1,b2,b3,b4⟩,fun j u hu=>?_⟩
  have hj:j<5:=by
   rcases Nat.lt_or_ge j 5 with h'|h'
   .
    exact h'
   rw[List.getElem?_eq_none (by simpa[DI.ints] using h')] at hu;cases hu
  rw[hcell j hj]
  match j,hj,hu with
  | 0,_,hu=>simpa[DI.ints] using hu
  | 1,_,hu=>simpa[DI.ints] using hu
  | 2,_,hu=>simpa[DI.ints] using hu
  | 3,_,hu=>simpa[DI.ints] using hu
  | 4,_,hu=>simpa[DI.ints] using hu)
 exact⟨_,l,rfl,hi⟩
theorem bE9{fuel:Nat}{cs:List Value}{x:DataW H × List MemPlace}(h:DataW.trod enc Tryz.prog W base sp held fuel 31 cs=some x):∃(s:Value) (l:List Bj),cs=[s]/\Aw 9 W s (wM l):=by
 rcases Deep.open_slice Tryz.underlying31 h with⟨rfl,_⟩|⟨a,len,cap,m,n,D,Pl,rfl,hb,hl,hm,hmm,_,hx⟩
 .
  exact⟨_,[],rfl,Aw.nil 9 W⟩
 have hlm:len<=m:=by rw[hmm];split <;> omega
 obtain⟨l,_,hi⟩:=Aw.of_each (f:=Bj.ints) (n:=9) (fun _=>rfl) dC (w:=W) (a:=a) hl hm (fun i hi=>by
  obtain⟨cs',hc,ht⟩:=hx i oM
  rw[aN5] at hc
  obtain⟨b0,b1,b2,b3,b4,b5,b6,b7,b8,rfl⟩:=bO7 ht
  obtain⟨_,_,hcell⟩:=World.cells?_some hc
  refine⟨⟨b0,b1,b2,b3,⟨b4,b5,b6,b7,b8⟩⟩,fun j u hu=>?_⟩
  have hj:j<9:=by
   rcases Nat.lt_or_ge j 9 with h'|h'
   .
    exact h'
   rw[List.getElem?_eq_none (by simpa[Bj.ints] using h')] at hu;cases hu
  rw[hcell j hj]
  match j,hj,hu with
  | 0,_,hu=>simpa[Bj.ints] using hu
  | 1,_,hu=>simpa[Bj.ints] using hu
  | 2,_,hu=>simpa[Bj.ints] using hu
  | 3,_,hu=>simpa[Bj.ints] using hu
  | 4,_,hu=>simpa[Bj.ints] using hu
  | 5,_,hu=>simpa[Bj.ints] using hu
  | 6,_,hu=>simpa[Bj.ints] using hu
  | 7,_,hu=>simpa[Bj.ints] using hu
  | 8,_,hu=>simpa[Bj.ints] using hu)
 exact⟨_,l,rfl,hi⟩
theorem cD4{fuel:Nat}{cs:List Value}{x:DataW H × List MemPlace}(h:DataW.trod enc Tryz.prog W base sp held fuel 47 cs=some x):∃(c0:Int) (c1:Int) (c2:Int) (c3:Int) (c4:Int) (s5:Value) (l5:List DO),cs=[.int .i64 c0,.int .i64 c1,.int .i64 c2,.int .i64 c3,.int .i64 c4,s5]/\Aw 2 W s5 (KF l5):=by
 have hl:=FR Tryz.underlying47 h
 rw[bA5] at hl
 obtain⟨v0,v1,v2,v3,v4,v5,rfl⟩:∃v0 v1 v2 v3 v4 v5,cs=[v0,v1,v2,v3,v4,v5]:=by match cs,hl with|[v0,v1,v2,v3,v4,v5],_=>exact⟨v0,v1,v2,v3,v4,v5,rfl⟩
 obtain⟨n0,y0,h0⟩:=Bw Tryz.underlying47 h 0 _ rfl
 obtain⟨n1,y1,h1⟩:=Bw Tryz.underlying47 h 1 _ rfl
 obtain⟨n2,y2,h2⟩:=Bw Tryz.underlying47 h 2 _ rfl
 obtain⟨n3,y3,h3⟩:=Bw Tryz.underlying47 h 3 _ rfl
 obtain⟨n4,y4,h4⟩:=Bw Tryz.underlying47 h 4 _ rfl
 obtain⟨n5,y5,h5⟩:=Bw Tryz.underlying47 h 5 _ rfl
 simp[cC9,BJ] at h0 h1 h2 h3 h4 h5
 obtain⟨a0,e0,_⟩:=DataW.trod_int Tryz.underlying2 h0
 simp at e0
 subst e0
 obtain⟨a1,e1,_⟩:=DataW.trod_int Tryz.underlying2 h1
 simp at e1
 subst e1
 obtain⟨a2,e2,_⟩:=DataW.trod_int Tryz.underlying2 h2
 simp at e2
 subst e2
 obtain⟨a3,e3,_⟩:=DataW.trod_int Tryz.underlying2 h3
 simp at e3
 subst e3
 obtain⟨a4,e4,_⟩:=DataW.trod_int Tryz.underlying2 h4
 simp at e4
 subst e4
 obtain⟨a5,m5,e5,r5⟩:=cD2 h5
 simp at e5
 subst e5
 exact⟨a0,a1,a2,a3,a4,_,m5,rfl,r5⟩
theorem cD5{fuel:Nat}{cs:List Value}{x:DataW H × List MemPlace}(h:DataW.trod enc Tryz.prog W base sp held fuel 49 cs=some x):∃(c0:Int) (c1:Int) (c2:Int) (c3:Int) (c4:Int) (s5:Value) (l5:List DO),cs=[.int .i64 c0,.int .i64 c1,.int .i64 c2,.int .i64 c3,.int .i64 c4,s5]/\Aw 2 W s5 (KF l5):=by
 have hl:=FR Tryz.underlying49 h
 rw[bA6] at hl
 obtain⟨v0,v1,v2,v3,v4,v5,rfl⟩:∃v0 v1 v2 v3 v4 v5,cs=[v0,v1,v2,v3,v4,v5]:=by match cs,hl with|[v0,v1,v2,v3,v4,v5],_=>exact⟨v0,v1,v2,v3,v4,v5,rfl⟩
 obtain⟨n0,y0,h0⟩:=Bw Tryz.underlying49 h 0 _ rfl
 simp[bA5] at h0
 obtain⟨z0c0,z0c1,z0c2,z0c3,z0c4,z0s5,z0l5,e0,cN9⟩:=cD4 h0
 simp at e0
 obtain⟨cO0,cO1,cS9,cT0,cT3,cT4⟩:=e0
 subst cO0;subst cO1;subst cS9;subst cT0;subst cT3;subst cT4
 exact⟨_,_,_,_,_,_,z0l5,rfl,cN9⟩
theorem bO9{fuel:Nat}{cs:List Value}{x:DataW H × List MemPlace}(h:DataW.trod enc Tryz.prog W base sp held fuel 53 cs=some x):∃(c0:Int) (c1:Int) (c2:Int) (c3:Int) (c4:Int) (c5:Int) (c6:Int) (s7:Value) (l7:List DO) (c8:Bool) (c9:Int) (c10:Int) (c11:Int) (c12:Int) (c13:Int) (c14:Int),cs=[.int .i64 c0,.int .i64 c1,.int .i64 c2,.int .i64 c3,.int .i64 c4,.int .i64 c5,.int .i64 c6,s7,.bool c8,.int .i64 c9,.int .i64 c10,.int .i64 c11,.int .i64 c12,.int .i64 c13,.int .i64 c14]/\Aw 2 W s7 (KF l7):=by
 have hl:=FR Tryz.underlying53 h
 rw[ZU] at hl
 obtain⟨v0,v1,v2,v3,v4,v5,v6,v7,v8,v9,v10,v11,v12,v13,v14,rfl⟩:∃v0 v1 v2 v3 v4 v5 v6 v7 v8 v9 v10 v11 v12 v13 v14,cs=[v0,v1,v2,v3,v4,v5,v6,v7,v8,v9,v10,v11,v12,v13,v14]:=by match cs,hl with|[v0,v1,v2,v3,v4,v5,v6,v7,v8,v9,v10,v11,v12,v13,v14],_=>exact⟨v0,v1,v2,v3,v4,v5,v6,v7,v8,v9,v10,v11,v12,v13,v14,rfl⟩
 obtain⟨n0,y0,h0⟩:=Bw Tryz.underlying53 h 0 _ rfl
 obtain⟨n1,y1,h1⟩:=Bw Tryz.underlying53 h 1 _ rfl
 obtain⟨n2,y2,h2⟩:=Bw Tryz.underlying53 h 2 _ rfl
 obtain⟨n3,y3,h3⟩:=Bw Tryz.underlying53 h 3 _ rfl
 obtain⟨n4,y4,h4⟩:=Bw Tryz.underlying53 h 4 _ rfl
 obtain⟨n5,y5,h5⟩:=Bw Tryz.underlying53 h 5 _ rfl
 simp[aI5,BJ,bA4,bA6] at h0 h1 h2 h3 h4 h5
 obtain⟨a0,e0,_⟩:=DataW.trod_int Tryz.underlying2 h0
 simp at e0
 subst e0
 obtain⟨a1,e1,_⟩:=DataW.trod_int Tryz.underlying2 h1
 simp at e1
 subst e1
 obtain⟨z2c0,z2c1,z2c2,z2c3,z2c4,z2s5,z2l5,e2,cT5⟩:=cD5 h2
 simp at e2
 obtain⟨cO2,cO3,cO4,cO5,cO6,cO7⟩:=e2
 subst cO2;subst cO3;subst cO4;subst cO5;subst cO6;subst cO7
 obtain⟨a8,e8,_⟩:=DataW.trod_bool Tryz.underlying4 h3
 simp at e8
 subst e8
 obtain⟨z4c0,z4c1,z4c2,z4c3,z4c4,e9⟩:=bO5 h4
 simp at e9
 obtain⟨cT6,cT7,cT8,cT9,cU0⟩:=e9
 subst cT6;subst cT7;subst cT8;subst cT9;subst cU0
 obtain⟨a14,e14,_⟩:=DataW.trod_int Tryz.underlying2 h5
 simp at e14
 subst e14
 exact⟨a0,a1,_,_,_,_,_,_,z2l5,a8,_,_,_,_,_,a14,rfl,cT5⟩
theorem bP0{fuel:Nat}{cs:List Value}{x:DataW H × List MemPlace}(h:DataW.trod enc Tryz.prog W base sp held fuel 42 cs=some x):∃(c0:Int) (c1:Int) (s2:Value) (l2:List AP) (s3:Value) (l3:List DI) (c4:Int) (c5:Int) (c6:Int),cs=[.int .i64 c0,.int .i64 c1,s2,s3,.int .i64 c4,.int .i64 c5,.int .i64 c6]/\Aw 2 W s2 (wI l2)/\Aw 5 W s3 (AQ l3):=by
 have hl:=FR Tryz.underlying42 h
 rw[aN6] at hl
 obtain⟨v0,v1,v2,v3,v4,v5,v6,rfl⟩:∃v0 v1 v2 v3 v4 v5 v6,cs=[v0,v1,v2,v3,v4,v5,v6]:=by match cs,hl with|[v0,v1,v2,v3,v4,v5,v6],_=>exact⟨v0,v1,v2,v3,v4,v5,v6,rfl⟩
 obtain⟨n0,y0,h0⟩:=Bw Tryz.underlying42 h 0 _ rfl
 obtain⟨n1,y1,h1⟩:=Bw Tryz.underlying42 h 1 _ rfl
 obtain⟨n2,y2,h2⟩:=Bw Tryz.underlying42 h 2 _ rfl
 obtain⟨n3,y3,h3⟩:=Bw Tryz.underlying42 h 3 _ rfl
 obtain⟨n4,y4,h4⟩:=Bw Tryz.underlying42 h 4 _ rfl
 simp[BJ,cD0,aN4,bO4] at h0 h1 h2 h3 h4
 obtain⟨a0,e0,_⟩:=DataW.trod_int Tryz.underlying2 h0
 simp at e0
 subst e0
 obtain⟨a1,e1,_⟩:=DataW.trod_int Tryz.underlying2 h1
 simp at e1
 subst e1
 obtain⟨a2,m2,e2,r2⟩:=bO8 h2
 simp at e2
 subst e2
 obtain⟨a3,m3,e3,r3⟩:=cD3 h3
 simp at e3
 subst e3
 obtain⟨z4c0,z4c1,z4c2,e4⟩:=bO6 h4
 simp at e4
 obtain⟨cN6,cN7,cN8⟩:=e4
 subst cN6;subst cN7;subst cN8
 exact⟨a0,a1,_,m2,_,m3,_,_,_,rfl,r2,r3⟩
end
end Go.Proofs.YtkpmbocbbgocbaaGreat
namespace Go.Proofs.YtkpmbocbbgocbaaGreat
open Go.RowKit
theorem List.map_prod_left_eq_zip'{α:Type}(l:List (α × Value))(f:α->wK):l.flatMap (fun d=>DV (f d.1,d.2))=((l.map (f ∘ fun x=>x.1)).zip (l.map (·.2))).flatMap DV:=by
 induction l with
 | nil=>rfl
 | cons x l ih=>simp only[List.flatMap_cons,List.map_cons,List.zip_cons_cons,ih,Function.comp]
theorem Sl.of_each{α:Type}{f:α->List Value}{n:Nat}(hn:0<n){w:World}{a:Addr}{len cap:Nat}(hl:len<=cap)(hm:cap<=maxLen)(l:List α)(hlen:l.length=len)(hf:∀x ∈ l,(f x).length=n)
  (hp:∀(i:Nat) (d:α),l[i]?=some d->∀j u,(f d)[j]?=some u->w.cell? ((a.add (i*n)).add j)=some u):Sl n w (.slice (some a) len cap) (l.flatMap f):=by
 refine⟨some a,len,cap,rfl,by rw[UF f l hf,hlen],hl,hm,(fun h=>by cases h),fun b off sp ha hpos=>?_⟩
 injection ha with ha
 subst ha
 have hd:0<l.length:=by omega
 have hsp:sp=none:=by
  have hm0:(f l[0])[0]?=some ((f l[0])[0]'(by rw[hf _ (List.getElem_mem hd)];exact hn)):=List.getElem?_eq_getElem _
  have h1:=hp 0 _ (List.getElem?_eq_getElem hd) 0 _ hm0
  have e0:((⟨b,off,sp⟩:Addr).add (0*n)).add 0=⟨b,off,sp⟩:=by unfold Addr.add;simp
  rw[e0] at h1
  cases sp with
  | none=>rfl
  | some s=>unfold World.cell? at h1;split at h1 <;> simp at h1
 subst hsp
 have hcell:∀i u,(l.flatMap f)[i]?=some u->w.cell? ⟨b,off+i,none⟩=some u:=by
  intro i u hu
  have hi:i<l.length*n:=by
   rw[<-UF f l hf]
   exact(List.getElem?_eq_some_iff.1 hu).1
  have hd:i / n<l.length:=Nat.div_lt_of_lt_mul (by rw[Nat.mul_comm];exact hi)
  have hmod:i % n<n:=Nat.mod_lt _ hn
  have he:i / n*n+i % n=i:=by rw[Nat.mul_comm];exact Nat.div_add_mod i n
  have hg:=UE f l hf (i / n) (i % n) l[i / n] (List.getElem?_eq_getElem hd) hmod
  rw[he,hu] at hg
  have:=hp (i / n) _ (List.getElem?_eq_getElem hd) (i % n) u hg.symm
  rw[IE,IE,Nat.add_assoc,he] at this
  exact this
 have h0:0<(l.flatMap f).length:=by rw[UF f l hf];exact Nat.mul_pos hd hn
 exact⟨rfl,World.block_lt_of_cell? w _ (hcell 0 _ (List.getElem?_eq_getElem h0)),hcell⟩
theorem Ll.of_each{α:Type}{f:α->wK}{n:Nat}(hf:∀x,(f x).1.length=n){w:World}{a:Addr}{len cap:Nat}(hl:len<=cap)(hm:cap<=maxLen)
  (h:∀i,i<len->∃(d:α) (s:Value),(∀j u,(DV (f d,s))[j]?=some u->w.cell? ((a.add (i*(n+1))).add j)=some u)/\Aw 1 w s (f d).2):∃l:List α,l.length=len/\Ll n w (.slice (some a) len cap) (l.map f):=by
 obtain⟨l,hlen,hp⟩:=PT (α:=α × Value) (p:=fun i d=>(∀j u,(DV (f d.1,d.2))[j]?=some u->w.cell? ((a.add (i*(n+1))).add j)=some u)/\Aw 1 w d.2 (f d.1).2) len (fun i hi=>by
  obtain⟨d,s,h1⟩:=h i hi
  exact⟨(d,s),h1⟩)
 refine⟨l.map (·.1),by simp[hlen],?_,l.map (·.2),by simp,?_,fun i s r h1 h2=>?_⟩
 .
  intro r hr
  simp only[List.mem_map] at hr
  obtain⟨x,⟨y,_,rfl⟩,rfl⟩:=hr
  exact hf _
 .
  have e:AS ((l.map (·.1)).map f) (l.map (·.2))=l.flatMap (fun d=>DV (f d.1,d.2)):=by
   unfold AS
   rw[List.map_map,<-List.map_prod_left_eq_zip' l f]
  rw[e]
  exact Sl.of_each oM hl hm l hlen (fun x _=>by simp[DV,hf]) (fun i d hd=>(hp i d hd).1)
 simp only[List.getElem?_map,Option.map_eq_some_iff] at h1 h2
 obtain⟨x,hx,rfl⟩:=h1
 obtain⟨y,⟨z,hz,rfl⟩,rfl⟩:=h2
 rw[hx] at hz;injection hz with hz;subst hz
 exact(hp i x hx).2
end Go.Proofs.YtkpmbocbbgocbaaGreat
namespace Go.Proofs.YtkpmbocbbgocbaaGreat
open Go.ChangeShapes Go.WideShapes Go.ChangeAt Go.RowKit Go.G8
theorem aU1:Tryz.prog.cellsOf 22=1:=by kernel_rfl
theorem bF0:Tryz.prog.cellsOf 23=1:=by kernel_rfl
theorem aN7:Tryz.prog.cellsOf 345=2:=by kernel_rfl
theorem YS:Tryz.prog.cellsOf 25=2:=by kernel_rfl
theorem aN8:Tryz.prog.cellsOf 44=12:=by kernel_rfl
section
variable {H:Type} {enc:TypeId × Value->H} {W:World} {base:Nat} {sp:Nat->Bool} {held:Bool}
theorem bP1{fuel:Nat}{cs:List Value}{x:DataW H × List MemPlace}(h:DataW.trod enc Tryz.prog W base sp held fuel 345 cs=some x):∃(c0:Int) (s1:Value) (l1:List Int),cs=[.int .i64 c0,s1]/\Aw 1 W s1 l1:=by
 have hl:=FR Tryz.underlying345 h
 rw[aN7] at hl
 obtain⟨v0,v1,rfl⟩:∃v0 v1,cs=[v0,v1]:=by match cs,hl with|[v0,v1],_=>exact⟨v0,v1,rfl⟩
 obtain⟨n0,y0,h0⟩:=Bw Tryz.underlying345 h 0 _ rfl
 obtain⟨n1,y1,h1⟩:=Bw Tryz.underlying345 h 1 _ rfl
 simp[BJ,UI] at h0 h1
 obtain⟨a0,e0,_⟩:=DataW.trod_int Tryz.underlying2 h0
 simp at e0
 subst e0
 obtain⟨a1,m1,e1,r1⟩:=UJ h1
 simp at e1
 subst e1
 exact⟨a0,_,m1,rfl,r1⟩
theorem aU2{fuel:Nat}{cs:List Value}{x:DataW H × List MemPlace}(h:DataW.trod enc Tryz.prog W base sp held fuel 22 cs=some x):∃(s:Value) (l:List (List Int)),cs=[s]/\Ll 0 W s (Bd l):=by
 rcases Deep.open_slice Tryz.underlying22 h with⟨rfl,_⟩|⟨a,len,cap,m,n,D,Pl,rfl,hb,hl,hm,hmm,_,hx⟩
 .
  exact⟨_,[],rfl,Ll.nil 0 W⟩
 have hlm:len<=m:=by rw[hmm];split <;> omega
 obtain⟨l,_,hi⟩:=Ll.of_each (f:=fun r:List Int=>(([],r):wK)) (n:=0) (fun _=>rfl) (w:=W) (a:=a) hl hm (fun i hi=>by
  obtain⟨cs',hc,ht⟩:=hx i oM
  rw[UI] at hc
  obtain⟨s,d,rfl,hd⟩:=UJ ht
  obtain⟨_,_,hcell⟩:=World.cells?_some hc
  refine⟨d,s,fun j u hu=>?_,hd⟩
  have hj:j<1:=by simpa[DV] using(List.getElem?_eq_some_iff.1 hu).1
  rw[hcell j hj]
  obtain rfl:j=0:=by omega
  simpa[DV] using hu)
 exact⟨_,l,rfl,hi⟩
theorem bF2{fuel:Nat}{cs:List Value}{x:DataW H × List MemPlace}(h:DataW.trod enc Tryz.prog W base sp held fuel 23 cs=some x):∃(s:Value) (l:List AG),cs=[s]/\Ll 1 W s (Dq l):=by
 rcases Deep.open_slice Tryz.underlying23 h with⟨rfl,_⟩|⟨a,len,cap,m,n,D,Pl,rfl,hb,hl,hm,hmm,_,hx⟩
 .
  exact⟨_,[],rfl,Ll.nil 1 W⟩
 have hlm:len<=m:=by rw[hmm];split <;> omega
 obtain⟨l,_,hi⟩:=Ll.of_each (f:=fun d:AG=>(([d.At],d.Row):wK)) (n:=1) (fun _=>rfl) (w:=W) (a:=a) hl hm (fun i hi=>by
  obtain⟨cs',hc,ht⟩:=hx i oM
  rw[aN7] at hc
  obtain⟨c0,s,d,rfl,hd⟩:=bP1 ht
  obtain⟨_,_,hcell⟩:=World.cells?_some hc
  refine⟨⟨c0,d⟩,s,fun j u hu=>?_,hd⟩
  have hj:j<2:=by simpa[DV] using(List.getElem?_eq_some_iff.1 hu).1
  rw[hcell j hj]
  match j,hj,hu with
  | 0,_,hu=>simpa[DV] using hu
  | 1,_,hu=>simpa[DV] using hu)
 exact⟨_,l,rfl,hi⟩
theorem bA7{fuel:Nat}{cs:List Value}{x:DataW H × List MemPlace}(h:DataW.trod enc Tryz.prog W base sp held fuel 25 cs=some x):∃(s0:Value) (l0:List (List Int)) (s1:Value) (l1:List AG),cs=[s0,s1]/\Ll 0 W s0 (Bd l0)/\Ll 1 W s1 (Dq l1):=by
 have hl:=FR Tryz.underlying25 h
 rw[YS] at hl
 obtain⟨v0,v1,rfl⟩:∃v0 v1,cs=[v0,v1]:=by match cs,hl with|[v0,v1],_=>exact⟨v0,v1,rfl⟩
 obtain⟨n0,y0,h0⟩:=Bw Tryz.underlying25 h 0 _ rfl
 obtain⟨n1,y1,h1⟩:=Bw Tryz.underlying25 h 1 _ rfl
 simp[aU1,bF0] at h0 h1
 obtain⟨a0,m0,e0,r0⟩:=aU2 h0
 simp at e0
 subst e0
 obtain⟨a1,m1,e1,r1⟩:=bF2 h1
 simp at e1
 subst e1
 exact⟨_,m0,_,m1,rfl,r0,r1⟩
theorem bP2{fuel:Nat}{cs:List Value}{x:DataW H × List MemPlace}(h:DataW.trod enc Tryz.prog W base sp held fuel 44 cs=some x):∃(s0:Value) (l0:List (List Int)) (s1:Value) (l1:List AG) (c2:Int) (c3:Int) (s4:Value) (l4:List AP) (s5:Value) (l5:List DI) (c6:Int) (c7:Int) (c8:Int) (c9:Int) (c10:Int) (c11:Int),cs=[s0,s1,.int .i64 c2,.int .i64 c3,s4,s5,.int .i64 c6,.int .i64 c7,.int .i64 c8,.int .i64 c9,.int .i64 c10,.int .i64 c11]/\Ll 0 W s0 (Bd l0)/\Ll 1 W s1 (Dq l1)/\Aw 2 W s4 (wI l4)/\Aw 5 W s5 (AQ l5):=by
 have hl:=FR Tryz.underlying44 h
 rw[aN8] at hl
 obtain⟨v0,v1,v2,v3,v4,v5,v6,v7,v8,v9,v10,v11,rfl⟩:∃v0 v1 v2 v3 v4 v5 v6 v7 v8 v9 v10 v11,cs=[v0,v1,v2,v3,v4,v5,v6,v7,v8,v9,v10,v11]:=by match cs,hl with|[v0,v1,v2,v3,v4,v5,v6,v7,v8,v9,v10,v11],_=>exact⟨v0,v1,v2,v3,v4,v5,v6,v7,v8,v9,v10,v11,rfl⟩
 obtain⟨n0,y0,h0⟩:=Bw Tryz.underlying44 h 0 _ rfl
 obtain⟨n1,y1,h1⟩:=Bw Tryz.underlying44 h 1 _ rfl
 obtain⟨n2,y2,h2⟩:=Bw Tryz.underlying44 h 2 _ rfl
 obtain⟨n3,y3,h3⟩:=Bw Tryz.underlying44 h 3 _ rfl
 obtain⟨n4,y4,h4⟩:=Bw Tryz.underlying44 h 4 _ rfl
 simp[YS,BJ,aN6] at h0 h1 h2 h3 h4
 obtain⟨z0s0,z0l0,z0s1,z0l1,e0,cN9,cU2⟩:=bA7 h0
 simp at e0
 obtain⟨cO0,cO1⟩:=e0
 subst cO0;subst cO1
 obtain⟨z1c0,z1c1,z1s2,z1l2,z1s3,z1l3,z1c4,z1c5,z1c6,e2,cU3,cU4⟩:=bP0 h1
 simp at e2
 obtain⟨cO2,cO3,cO4,cO5,cO6,cO7,cU5⟩:=e2
 subst cO2;subst cO3;subst cO4;subst cO5;subst cO6;subst cO7;subst cU5
 obtain⟨a9,e9,_⟩:=DataW.trod_int Tryz.underlying2 h2
 simp at e9
 subst e9
 obtain⟨a10,e10,_⟩:=DataW.trod_int Tryz.underlying2 h3
 simp at e10
 subst e10
 obtain⟨a11,e11,_⟩:=DataW.trod_int Tryz.underlying2 h4
 simp at e11
 subst e11
 exact⟨_,z0l0,_,z0l1,_,_,_,z1l2,_,z1l3,_,_,_,a9,a10,a11,rfl,cN9,cU2,cU3,cU4⟩
end
end Go.Proofs.YtkpmbocbbgocbaaGreat
