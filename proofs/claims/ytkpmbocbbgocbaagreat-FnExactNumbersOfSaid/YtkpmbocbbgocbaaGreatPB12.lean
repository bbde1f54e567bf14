/- Open4. -/
import Derived.Test.YtkpmbocbbgocbaaGreatPGc
import Derived.Test.YtkpmbocbbgocbaaGreatPB3
set_option linter.unusedSimpArgs false
set_option linter.unusedVariables false
set_option maxHeartbeats 8000000
set_option maxRecDepth 100000
namespace Go.Proofs.YtkpmbocbbgocbaaGreat
open Go.RowKit Go.G8
theorem YL{α β:Type}(f:α->β):∀l:List α,l.flatMap (fun y=>[f y])=l.map f
 | []=>rfl
 | x::l=>by rw[List.flatMap_cons,YL f l];rfl
theorem lQ(cs:List Value)(o n m:Nat)(h:o+n=m):cs.drop o=(cs.drop o).take n++cs.drop m:=by
 rw[<-h,<-List.drop_drop]
 exact(List.take_append_drop n (cs.drop o)).symm
section
open Go.ChangeShapes Go.WideShapes Go.ChangeAt Go.RowKit Go.G8
theorem bC1:Tryz.prog.cellsOf 292=3:=by kernel_rfl
theorem bC2:Tryz.prog.cellsOf 175=7:=by kernel_rfl
theorem bW3:Tryz.prog.cellsOf 302=4:=by kernel_rfl
theorem bC3:Tryz.prog.cellsOf 305=2:=by kernel_rfl
theorem bW4:Tryz.prog.cellsOf 272=3:=by kernel_rfl
theorem aR7:Tryz.prog.cellsOf 28=1:=by kernel_rfl
theorem bW5:Tryz.prog.cellsOf 54=1:=by kernel_rfl
theorem cG9:Tryz.prog.cellsOf 55=1:=by kernel_rfl
theorem bW6:Tryz.prog.cellsOf 59=1:=by kernel_rfl
theorem cH0:Tryz.prog.cellsOf 34=1:=by kernel_rfl
theorem cH1:Tryz.prog.cellsOf 58=1:=by kernel_rfl
theorem bW7:Tryz.prog.cellsOf 63=1:=by kernel_rfl
theorem bW8:Tryz.prog.cellsOf 27=4:=by kernel_rfl
theorem aL1:Tryz.prog.cellsOf 30=4:=by kernel_rfl
theorem bC4:Tryz.prog.cellsOf 33=3:=by kernel_rfl
theorem aB7:Tryz.prog.cellsOf 36=19:=by kernel_rfl
theorem XM:Tryz.prog.cellsOf 57=4:=by kernel_rfl
theorem bW9:Tryz.prog.cellsOf 61=2:=by kernel_rfl
theorem bX0:Tryz.prog.cellsOf 65=73:=by kernel_rfl
section
variable {H:Type} {enc:TypeId × Value->H} {W:World} {base:Nat} {sp:Nat->Bool} {held:Bool}
theorem cH2{fuel:Nat}{cs:List Value}{x:DataW H × List MemPlace}(h:DataW.trod enc Tryz.prog W base sp held fuel 292 cs=some x):∃(c0:Int) (c1:Int) (c2:Int),cs=[.int .i64 c0,.int .i64 c1,.int .i64 c2]:=by
 have hl:=FR Tryz.underlying292 h
 rw[bC1] at hl
 obtain⟨v0,v1,v2,rfl⟩:∃v0 v1 v2,cs=[v0,v1,v2]:=by match cs,hl with|[v0,v1,v2],_=>exact⟨v0,v1,v2,rfl⟩
 obtain⟨n0,y0,h0⟩:=Bw Tryz.underlying292 h 0 _ rfl
 obtain⟨n1,y1,h1⟩:=Bw Tryz.underlying292 h 1 _ rfl
 obtain⟨n2,y2,h2⟩:=Bw Tryz.underlying292 h 2 _ rfl
 simp[BJ] at h0 h1 h2
 obtain⟨a0,e0,_⟩:=DataW.trod_int Tryz.underlying2 h0
 simp at e0
 subst e0
 obtain⟨a1,e1,_⟩:=DataW.trod_int Tryz.underlying2 h1
 simp at e1
 subst e1
 obtain⟨a2,e2,_⟩:=DataW.trod_int Tryz.underlying2 h2
 simp at e2
 subst e2
 exact⟨a0,a1,a2,rfl⟩
theorem cH3{fuel:Nat}{cs:List Value}{x:DataW H × List MemPlace}(h:DataW.trod enc Tryz.prog W base sp held fuel 175 cs=some x):∃(c0:Int) (c1:Int) (c2:Int) (c3:Int) (c4:Int) (c5:Int) (c6:Int),cs=[.int .i64 c0,.int .i64 c1,.int .i64 c2,.int .i64 c3,.int .i64 c4,.int .i64 c5,.int .i64 c6]:=by
 have hl:=FR Tryz.underlying175 h
 rw[bC2] at hl
 obtain⟨v0,v1,v2,v3,v4,v5,v6,rfl⟩:∃v0 v1 v2 v3 v4 v5 v6,cs=[v0,v1,v2,v3,v4,v5,v6]:=by match cs,hl with|[v0,v1,v2,v3,v4,v5,v6],_=>exact⟨v0,v1,v2,v3,v4,v5,v6,rfl⟩
 obtain⟨n0,y0,h0⟩:=Bw Tryz.underlying175 h 0 _ rfl
 obtain⟨n1,y1,h1⟩:=Bw Tryz.underlying175 h 1 _ rfl
 obtain⟨n2,y2,h2⟩:=Bw Tryz.underlying175 h 2 _ rfl
 simp[BJ,bA4] at h0 h1 h2
 obtain⟨a0,e0,_⟩:=DataW.trod_int Tryz.underlying2 h0
 simp at e0
 subst e0
 obtain⟨z1c0,z1c1,z1c2,z1c3,z1c4,e1⟩:=bO5 h1
 simp at e1
 obtain⟨cV9,cW0,cW1,cW2,cW5⟩:=e1
 subst cV9;subst cW0;subst cW1;subst cW2;subst cW5
 obtain⟨a6,e6,_⟩:=DataW.trod_int Tryz.underlying2 h2
 simp at e6
 subst e6
 exact⟨a0,_,_,_,_,_,a6,rfl⟩
theorem cM5{fuel:Nat}{cs:List Value}{x:DataW H × List MemPlace}(h:DataW.trod enc Tryz.prog W base sp held fuel 302 cs=some x):∃(c0:Int) (c1:Int) (c2:Int) (c3:Int),cs=[.int .i64 c0,.int .i64 c1,.int .i64 c2,.int .i64 c3]:=by
 have hl:=FR Tryz.underlying302 h
 rw[bW3] at hl
 obtain⟨v0,v1,v2,v3,rfl⟩:∃v0 v1 v2 v3,cs=[v0,v1,v2,v3]:=by match cs,hl with|[v0,v1,v2,v3],_=>exact⟨v0,v1,v2,v3,rfl⟩
 obtain⟨n0,y0,h0⟩:=Bw Tryz.underlying302 h 0 _ rfl
 obtain⟨n1,y1,h1⟩:=Bw Tryz.underlying302 h 1 _ rfl
 obtain⟨n2,y2,h2⟩:=Bw Tryz.underlying302 h 2 _ rfl
 obtain⟨n3,y3,h3⟩:=Bw Tryz.underlying302 h 3 _ rfl
 simp[BJ] at h0 h1 h2 h3
 obtain⟨a0,e0,_⟩:=DataW.trod_int Tryz.underlying2 h0
 simp at e0
 subst e0
 obtain⟨a1,e1,_⟩:=DataW.trod_int Tryz.underlying2 h1
 simp at e1
 subst e1
 obtain⟨a2,e2,_⟩:=DataW.trod_int Tryz.underlying2 h2
 simp at e2
 subst e2
 obtain⟨a3,e3,_⟩:=DataW.trod_int Tryz.underlying2 h3
 simp at e3
 subst e3
 exact⟨a0,a1,a2,a3,rfl⟩
theorem cH4{fuel:Nat}{cs:List Value}{x:DataW H × List MemPlace}(h:DataW.trod enc Tryz.prog W base sp held fuel 305 cs=some x):∃(c0:Int) (c1:Int),cs=[.int .i64 c0,.int .i64 c1]:=by
 have hl:=FR Tryz.underlying305 h
 rw[bC3] at hl
 obtain⟨v0,v1,rfl⟩:∃v0 v1,cs=[v0,v1]:=by match cs,hl with|[v0,v1],_=>exact⟨v0,v1,rfl⟩
 obtain⟨n0,y0,h0⟩:=Bw Tryz.underlying305 h 0 _ rfl
 obtain⟨n1,y1,h1⟩:=Bw Tryz.underlying305 h 1 _ rfl
 simp[BJ] at h0 h1
 obtain⟨a0,e0,_⟩:=DataW.trod_int Tryz.underlying2 h0
 simp at e0
 subst e0
 obtain⟨a1,e1,_⟩:=DataW.trod_int Tryz.underlying2 h1
 simp at e1
 subst e1
 exact⟨a0,a1,rfl⟩
theorem cM6{fuel:Nat}{cs:List Value}{x:DataW H × List MemPlace}(h:DataW.trod enc Tryz.prog W base sp held fuel 272 cs=some x):∃(c0:Int) (c1:Int) (s2:Value) (l2:List Int),cs=[.int .i64 c0,.int .i64 c1,s2]/\Aw 1 W s2 l2:=by
 have hl:=FR Tryz.underlying272 h
 rw[bW4] at hl
 obtain⟨v0,v1,v2,rfl⟩:∃v0 v1 v2,cs=[v0,v1,v2]:=by match cs,hl with|[v0,v1,v2],_=>exact⟨v0,v1,v2,rfl⟩
 obtain⟨n0,y0,h0⟩:=Bw Tryz.underlying272 h 0 _ rfl
 obtain⟨n1,y1,h1⟩:=Bw Tryz.underlying272 h 1 _ rfl
 obtain⟨n2,y2,h2⟩:=Bw Tryz.underlying272 h 2 _ rfl
 simp[BJ,UI] at h0 h1 h2
 obtain⟨a0,e0,_⟩:=DataW.trod_int Tryz.underlying2 h0
 simp at e0
 subst e0
 obtain⟨a1,e1,_⟩:=DataW.trod_int Tryz.underlying2 h1
 simp at e1
 subst e1
 obtain⟨a2,m2,e2,r2⟩:=UJ h2
 simp at e2
 subst e2
 exact⟨a0,a1,_,m2,rfl,r2⟩
theorem aR8{fuel:Nat}{cs:List Value}{x:DataW H × List MemPlace}(h:DataW.trod enc Tryz.prog W base sp held fuel 28 cs=some x):∃(s:Value) (l:List Bz),cs=[s]/\Aw 3 W s (Xh l):=by
 rcases Deep.open_slice Tryz.underlying28 h with⟨rfl,_⟩|⟨a,len,cap,m,n,D,Pl,rfl,hb,hl,hm,hmm,_,hx⟩
 .
  exact⟨_,[],rfl,Aw.nil 3 W⟩
 have hlm:len<=m:=by rw[hmm];split <;> omega
 obtain⟨l,_,hi⟩:=Aw.of_each (f:=Bz.ints) (n:=3) (fun _=>rfl) dC (w:=W) (a:=a) hl hm (fun i hi=>by
  obtain⟨cs',hc,ht⟩:=hx i oM
  rw[bC1] at hc
  obtain⟨b0,b1,b2,rfl⟩:=cH2 ht
  obtain⟨_,_,hcell⟩:=World.cells?_some hc
  refine⟨⟨b0,b1,b2⟩,fun j u hu=>?_⟩
  have hj:j<3:=by
   rcases Nat.lt_or_ge j 3 with h'|h'
   .
    exact h'
   rw[List.getElem?_eq_none (by simpa[Bz.ints] using h')] at hu;cases hu
  rw[hcell j hj]
  match j,hj,hu with
  | 0,_,hu=>simpa[Bz.ints] using hu
  | 1,_,hu=>simpa[Bz.ints] using hu
  | 2,_,hu=>simpa[Bz.ints] using hu)
 exact⟨_,l,rfl,hi⟩
theorem bX1{fuel:Nat}{cs:List Value}{x:DataW H × List MemPlace}(h:DataW.trod enc Tryz.prog W base sp held fuel 54 cs=some x):∃(s:Value) (l:List wO),cs=[s]/\Aw 7 W s (TB l):=by
 rcases Deep.open_slice Tryz.underlying54 h with⟨rfl,_⟩|⟨a,len,cap,m,n,D,Pl,rfl,hb,hl,hm,hmm,_,hx⟩
 .
  exact⟨_,[],rfl,Aw.nil 7 W⟩
 have hlm:len<=m:=by rw[hmm];split <;> omega
 obtain⟨l,_,hi⟩:=Aw.of_each (f:=wO.ints) (n:=7) (fun _=>rfl) dC (w:=W) (a:=a) hl hm (fun i hi=>by
  obtain⟨cs',hc,ht⟩:=hx i oM
  rw[bC2] at hc
  obtain⟨b0,b1,b2,b3,b4,b5,b6,rfl⟩:=cH3 ht
  obtain⟨_,_,hcell⟩:=World.cells?_some hc
  refine⟨⟨b0,⟨b1,b2,b3,b4,b5⟩,b6⟩,fun j u hu=>?_⟩
  have hj:j<7:=by
   rcases Nat.lt_or_ge j 7 with h'|h'
   .
    exact h'
   rw[List.getElem?_eq_none (by simpa[wO.ints] using h')] at hu;cases hu
  rw[hcell j hj]
  match j,hj,hu with
  | 0,_,hu=>simpa[wO.ints] using hu
  | 1,_,hu=>simpa[wO.ints] using hu
  | 2,_,hu=>simpa[wO.ints] using hu
  | 3,_,hu=>simpa[wO.ints] using hu
  | 4,_,hu=>simpa[wO.ints] using hu
  | 5,_,hu=>simpa[wO.ints] using hu
  | 6,_,hu=>simpa[wO.ints] using hu)
 exact⟨_,l,rfl,hi⟩
theorem cH5{fuel:Nat}{cs:List Value}{x:DataW H × List MemPlace}(h:DataW.trod enc Tryz.prog W base sp held fuel 55 cs=some x):∃(s:Value) (l:List FP),cs=[s]/\Aw 4 W s (ZA l):=by
 rcases Deep.open_slice Tryz.underlying55 h with⟨rfl,_⟩|⟨a,len,cap,m,n,D,Pl,rfl,hb,hl,hm,hmm,_,hx⟩
 .
  exact⟨_,[],rfl,Aw.nil 4 W⟩
 have hlm:len<=m:=by rw[hmm];split <;> omega
 obtain⟨l,_,hi⟩:=Aw.of_each (f:=FP.ints) (n:=4) (fun _=>rfl) dC (w:=W) (a:=a) hl hm (fun i hi=>by
  obtain⟨cs',hc,ht⟩:=hx i oM
  rw[bW3] at hc
  obtain⟨b0,b1,b2,b3,rfl⟩:=cM5 ht
  obtain⟨_,_,hcell⟩:=World.cells?_some hc
  refine⟨⟨b0,b1,b2,b3⟩,fun j u hu=>?_⟩
  have hj:j<4:=by
   rcases Nat.lt_or_ge j 4 with h'|h'
   .
    exact h'
   rw[List.getElem?_eq_none (by simpa[FP.ints] using h')] at hu;cases hu
  rw[hcell j hj]
  match j,hj,hu with
  | 0,_,hu=>simpa[FP.ints] using hu
  | 1,_,hu=>simpa[FP.ints] using hu
  | 2,_,hu=>simpa[FP.ints] using hu
  | 3,_,hu=>simpa[FP.ints] using hu)
 exact⟨_,l,rfl,hi⟩
theorem bX2{fuel:Nat}{cs:List Value}{x:DataW H × List MemPlace}(h:DataW.trod enc Tryz.prog W base sp held fuel 59 cs=some x):∃(s:Value) (l:List BP),cs=[s]/\Aw 2 W s (WV l):=by
 rcases Deep.open_slice Tryz.underlying59 h with⟨rfl,_⟩|⟨a,len,cap,m,n,D,Pl,rfl,hb,hl,hm,hmm,_,hx⟩
 .
  exact⟨_,[],rfl,Aw.nil 2 W⟩
 have hlm:len<=m:=by rw[hmm];split <;> omega
 obtain⟨l,_,hi⟩:=Aw.of_each (f:=BP.ints) (n:=2) (fun _=>rfl) dC (w:=W) (a:=a) hl hm (fun i hi=>by
  obtain⟨cs',hc,ht⟩:=hx i oM
  rw[bC3] at hc
  obtain⟨b0,b1,rfl⟩:=cH4 ht
  obtain⟨_,_,hcell⟩:=World.cells?_some hc
  refine⟨⟨b0,b1⟩,fun j u hu=>?_⟩
  have hj:j<2:=by
   rcases Nat.lt_or_ge j 2 with h'|h'
   .
    exact h'
   rw[List.getElem?_eq_none (by simpa[BP.ints] using h')] at hu;cases hu
  rw[hcell j hj]
  match j,hj,hu with
  | 0,_,hu=>simpa[BP.ints] using hu
  | 1,_,hu=>simpa[BP.ints] using hu)
 exact⟨_,l,rfl,hi⟩
theorem cH6{fuel:Nat}{cs:List Value}{x:DataW H × List MemPlace}(h:DataW.trod enc Tryz.prog W base sp held fuel 34 cs=some x):∃(s:Value) (l:List EN),cs=[s]/\Aw 4 W s (MG l):=by
 rcases Deep.open_slice Tryz.underlying34 h with⟨rfl,_⟩|⟨a,len,cap,m,n,D,Pl,rfl,hb,hl,hm,hmm,_,hx⟩
 .
  exact⟨_,[],rfl,Aw.nil 4 W⟩
 have hlm:len<=m:=by rw[hmm];split <;> omega
 obtain⟨l,_,hi⟩:=Aw.of_each (f:=EN.ints) (n:=4) (fun _=>rfl) dC (w:=W) (a:=a) hl hm (fun i hi=>by
  obtain⟨cs',hc,ht⟩:=hx i oM
  rw[bO3] at hc
  obtain⟨b0,b1,b2,b3,rfl⟩:=cJ2 ht
  obtain⟨_,_,hcell⟩:=World.cells?_some hc
  refine⟨⟨b0,b1,b2,b3⟩,fun j u hu=>?_⟩
  have hj:j<4:=by
   rcases Nat.lt_or_ge j 4 with h'|h'
   .
    exact h'
   rw[List.getElem?_eq_none (by simpa[EN.ints] using h')] at hu;cases hu
  rw[hcell j hj]
  match j,hj,hu with
  | 0,_,hu=>simpa[EN.ints] using hu
  | 1,_,hu=>simpa[EN.ints] using hu
  | 2,_,hu=>simpa[EN.ints] using hu
  | 3,_,hu=>simpa[EN.ints] using hu)
 exact⟨_,l,rfl,hi⟩
theorem cH7{fuel:Nat}{cs:List Value}{x:DataW H × List MemPlace}(h:DataW.trod enc Tryz.prog W base sp held fuel 58 cs=some x):∃(s:Value) (l:List OP),cs=[s]/\Ll 2 W s (GK l):=by
 rcases Deep.open_slice Tryz.underlying58 h with⟨rfl,_⟩|⟨a,len,cap,m,n,D,Pl,rfl,hb,hl,hm,hmm,_,hx⟩
 .
  exact⟨_,[],rfl,Ll.nil 2 W⟩
 have hlm:len<=m:=by rw[hmm];split <;> omega
 obtain⟨l,_,hi⟩:=Ll.of_each (f:=fun d:OP=>(([d.From,d.To],d.Row):wK)) (n:=2) (fun _=>rfl) (w:=W) (a:=a) hl hm (fun i hi=>by
  obtain⟨cs',hc,ht⟩:=hx i oM
  rw[bW4] at hc
  obtain⟨c0,c1,s,d,rfl,hd⟩:=cM6 ht
  obtain⟨_,_,hcell⟩:=World.cells?_some hc
  refine⟨⟨c0,c1,d⟩,s,fun j u hu=>?_,hd⟩
  have hj:j<3:=by simpa[DV] using(List.getElem?_eq_some_iff.1 hu).1
  rw[hcell j hj]
  match j,hj,hu with
  | 0,_,hu=>simpa[DV] using hu
  | 1,_,hu=>simpa[DV] using hu
  | 2,_,hu=>simpa[DV] using hu)
 exact⟨_,l,rfl,hi⟩
theorem bX3{fuel:Nat}{cs:List Value}{x:DataW H × List MemPlace}(h:DataW.trod enc Tryz.prog W base sp held fuel 63 cs=some x):∃(s:Value) (l:List Bool),cs=[s]/\KU W s l:=by
 rcases Deep.open_slice Tryz.underlying63 h with⟨rfl,_⟩|⟨a,len,cap,m,n,D,Pl,rfl,hb,hl,hm,hmm,_,hx⟩
 .
  exact⟨_,[],rfl,Sl.nil 1 W⟩
 have hlm:len<=m:=by rw[hmm];split <;> omega
 obtain⟨l,hll,hp⟩:=PT (p:=fun i (y:Bool)=>W.cell? ((a.add (i*1)).add 0)=some (.bool y)) len (fun i hi=>by
  obtain⟨cs',hc,ht⟩:=hx i oM
  rw[aI5] at hc
  obtain⟨d,rfl,_⟩:=DataW.trod_bool Tryz.underlying4 ht
  obtain⟨_,_,hcell⟩:=World.cells?_some hc
  exact⟨d,by rw[hcell 0 dC];rfl⟩)
 have:=Sl.of_each (f:=fun y:Bool=>[Value.bool y]) (n:=1) dC (w:=W) (a:=a) hl hm l hll (fun _ _=>rfl) (fun i d hd j u hu=>by
  obtain rfl:j=0:=by have:=(List.getElem?_eq_some_iff.1 hu).1;simp at this;omega
  simp at hu
  rw[hp i d hd,<-hu])
 rw[show l.flatMap (fun y:Bool=>[Value.bool y])=l.map Value.bool from YL Value.bool l] at this
 exact⟨_,l,rfl,this⟩
theorem bC5{fuel:Nat}{cs:List Value}{x:DataW H × List MemPlace}(h:DataW.trod enc Tryz.prog W base sp held fuel 25 cs=some x):∃d:EI,FT W (.agg cs.toArray) d:=by
 obtain⟨s0,l0,s1,l1,rfl,h0,h1⟩:=bA7 h
 exact⟨⟨l0,l1⟩,s0,s1,rfl,h0,h1⟩
theorem bX4{fuel:Nat}{cs:List Value}{x:DataW H × List MemPlace}(h:DataW.trod enc Tryz.prog W base sp held fuel 44 cs=some x):∃d:EW,DF W (.agg cs.toArray) d:=by
 obtain⟨s0,l0,s1,l1,c2,c3,s4,l4,s5,l5,c6,c7,c8,c9,c10,c11,rfl,h0,h1,h4,h5⟩:=bP2 h
 exact⟨⟨⟨l0,l1⟩,⟨c2,c3,l4,l5,⟨c6,c7,c8⟩⟩,c9,c10,c11⟩,s0,s1,s4,s5,rfl,h0,h1,h4,h5⟩
theorem aR9{fuel:Nat}{cs:List Value}{x:DataW H × List MemPlace}(h:DataW.trod enc Tryz.prog W base sp held fuel 53 cs=some x):∃d:aQ,CN W (.agg cs.toArray) d:=by
 obtain⟨c0,c1,c2,c3,c4,c5,c6,s7,l7,c8,c9,c10,c11,c12,c13,c14,rfl,h7⟩:=bO9 h
 exact⟨⟨c0,c1,⟨⟨c2,c3,c4,c5,c6,l7⟩⟩,c8,⟨c9,c10,c11,c12,c13⟩,c14⟩,s7,rfl,h7⟩
theorem cM7{fuel:Nat}{cs:List Value}{x:DataW H × List MemPlace}(h:DataW.trod enc Tryz.prog W base sp held fuel 27 cs=some x):∃d:MV,SQ W (.agg cs.toArray) d:=by
 have hl:=FR Tryz.underlying27 h
 rw[bW8] at hl
 obtain⟨n0,y0,h0⟩:=Bw Tryz.underlying27 h 0 _ rfl
 obtain⟨n1,y1,h1⟩:=Bw Tryz.underlying27 h 1 _ rfl
 replace h0:DataW.trod enc Tryz.prog W base sp held n0 25 ((cs.drop 0).take (Tryz.prog.cellsOf 25))=some y0:=h0
 rw[YS] at h0
 replace h1:DataW.trod enc Tryz.prog W base sp held n1 25 ((cs.drop 2).take (Tryz.prog.cellsOf 25))=some y1:=h1
 rw[YS] at h1
 have hend:cs.drop 4=[]:=List.drop_eq_nil_of_le oM
 have E:=((lQ cs 0 2 2 rfl).trans (congrArg (fun z=>((cs.drop 0).take 2)++z) ((lQ cs 2 2 4 rfl).trans (congrArg (fun z=>((cs.drop 2).take 2)++z) hend))))
 obtain⟨a0,r0⟩:=bC5 h0
 obtain⟨a1,r1⟩:=bC5 h1
 exact⟨⟨a0,a1⟩,((cs.drop 0).take 2),((cs.drop 2).take 2),congrArg (fun l:List Value=>Value.agg l.toArray) E,(by simp[hl]),(by simp[hl]),r0,r1⟩
theorem bC6{fuel:Nat}{cs:List Value}{x:DataW H × List MemPlace}(h:DataW.trod enc Tryz.prog W base sp held fuel 30 cs=some x):∃d:wG,IM W (.agg cs.toArray) d:=by
 have hl:=FR Tryz.underlying30 h
 rw[aL1] at hl
 obtain⟨n0,y0,h0⟩:=Bw Tryz.underlying30 h 0 _ rfl
 obtain⟨n1,y1,h1⟩:=Bw Tryz.underlying30 h 1 _ rfl
 obtain⟨n2,y2,h2⟩:=Bw Tryz.underlying30 h 2 _ rfl
 obtain⟨n3,y3,h3⟩:=Bw Tryz.underlying30 h 3 _ rfl
 replace h0:DataW.trod enc Tryz.prog W base sp held n0 2 ((cs.drop 0).take (Tryz.prog.cellsOf 2))=some y0:=h0
 rw[BJ] at h0
 replace h1:DataW.trod enc Tryz.prog W base sp held n1 2 ((cs.drop 1).take (Tryz.prog.cellsOf 2))=some y1:=h1
 rw[BJ] at h1
 replace h2:DataW.trod enc Tryz.prog W base sp held n2 2 ((cs.drop 2).take (Tryz.prog.cellsOf 2))=some y2:=h2
 rw[BJ] at h2
 replace h3:DataW.trod enc Tryz.prog W base sp held n3 28 ((cs.drop 3).take (Tryz.prog.cellsOf 28))=some y3:=h3
 rw[aR7] at h3
 have hend:cs.drop 4=[]:=List.drop_eq_nil_of_le oM
 have E:=((lQ cs 0 1 1 rfl).trans (congrArg (fun z=>((cs.drop 0).take 1)++z) ((lQ cs 1 1 2 rfl).trans (congrArg (fun z=>((cs.drop 1).take 1)++z) ((lQ cs 2 1 3 rfl).trans (congrArg (fun z=>((cs.drop 2).take 1)++z) ((lQ cs 3 1 4 rfl).trans (congrArg (fun z=>((cs.drop 3).take 1)++z) hend))))))))
 obtain⟨a0,e0,_⟩:=DataW.trod_int Tryz.underlying2 h0
 rw[e0] at E
 obtain⟨a1,e1,_⟩:=DataW.trod_int Tryz.underlying2 h1
 rw[e1] at E
 obtain⟨a2,e2,_⟩:=DataW.trod_int Tryz.underlying2 h2
 rw[e2] at E
 obtain⟨v3,a3,e3,r3⟩:=aR8 h3
 rw[e3] at E
 exact⟨⟨a0,a1,a2,a3⟩,v3,congrArg (fun l:List Value=>Value.agg l.toArray) E,r3⟩
theorem cH8{fuel:Nat}{cs:List Value}{x:DataW H × List MemPlace}(h:DataW.trod enc Tryz.prog W base sp held fuel 33 cs=some x):∃d:iY,OK W (.agg cs.toArray) d:=by
 have hl:=FR Tryz.underlying33 h
 rw[bC4] at hl
 obtain⟨n0,y0,h0⟩:=Bw Tryz.underlying33 h 0 _ rfl
 obtain⟨n1,y1,h1⟩:=Bw Tryz.underlying33 h 1 _ rfl
 obtain⟨n2,y2,h2⟩:=Bw Tryz.underlying33 h 2 _ rfl
 replace h0:DataW.trod enc Tryz.prog W base sp held n0 2 ((cs.drop 0).take (Tryz.prog.cellsOf 2))=some y0:=h0
 rw[BJ] at h0
 replace h1:DataW.trod enc Tryz.prog W base sp held n1 2 ((cs.drop 1).take (Tryz.prog.cellsOf 2))=some y1:=h1
 rw[BJ] at h1
 replace h2:DataW.trod enc Tryz.prog W base sp held n2 31 ((cs.drop 2).take (Tryz.prog.cellsOf 31))=some y2:=h2
 rw[bE8] at h2
 have hend:cs.drop 3=[]:=List.drop_eq_nil_of_le oM
 have E:=((lQ cs 0 1 1 rfl).trans (congrArg (fun z=>((cs.drop 0).take 1)++z) ((lQ cs 1 1 2 rfl).trans (congrArg (fun z=>((cs.drop 1).take 1)++z) ((lQ cs 2 1 3 rfl).trans (congrArg (fun z=>((cs.drop 2).take 1)++z) hend))))))
 obtain⟨a0,e0,_⟩:=DataW.trod_int Tryz.underlying2 h0
 rw[e0] at E
 obtain⟨a1,e1,_⟩:=DataW.trod_int Tryz.underlying2 h1
 rw[e1] at E
 obtain⟨v2,a2,e2,r2⟩:=bE9 h2
 rw[e2] at E
 exact⟨⟨a0,a1,a2⟩,v2,congrArg (fun l:List Value=>Value.agg l.toArray) E,r2⟩
theorem aY0{fuel:Nat}{cs:List Value}{x:DataW H × List MemPlace}(h:DataW.trod enc Tryz.prog W base sp held fuel 36 cs=some x):∃d:Bh,IU W (.agg cs.toArray) d:=by
 have hl:=FR Tryz.underlying36 h
 rw[aB7] at hl
 obtain⟨n0,y0,h0⟩:=Bw Tryz.underlying36 h 0 _ rfl
 obtain⟨n1,y1,h1⟩:=Bw Tryz.underlying36 h 1 _ rfl
 obtain⟨n2,y2,h2⟩:=Bw Tryz.underlying36 h 2 _ rfl
 obtain⟨n3,y3,h3⟩:=Bw Tryz.underlying36 h 3 _ rfl
 obtain⟨n4,y4,h4⟩:=Bw Tryz.underlying36 h 4 _ rfl
 obtain⟨n5,y5,h5⟩:=Bw Tryz.underlying36 h 5 _ rfl
 obtain⟨n6,y6,h6⟩:=Bw Tryz.underlying36 h 6 _ rfl
 obtain⟨n7,y7,h7⟩:=Bw Tryz.underlying36 h 7 _ rfl
 replace h0:DataW.trod enc Tryz.prog W base sp held n0 27 ((cs.drop 0).take (Tryz.prog.cellsOf 27))=some y0:=h0
 rw[bW8] at h0
 replace h1:DataW.trod enc Tryz.prog W base sp held n1 30 ((cs.drop 4).take (Tryz.prog.cellsOf 30))=some y1:=h1
 rw[aL1] at h1
 replace h2:DataW.trod enc Tryz.prog W base sp held n2 30 ((cs.drop 8).take (Tryz.prog.cellsOf 30))=some y2:=h2
 rw[aL1] at h2
 replace h3:DataW.trod enc Tryz.prog W base sp held n3 4 ((cs.drop 12).take (Tryz.prog.cellsOf 4))=some y3:=h3
 rw[aI5] at h3
 replace h4:DataW.trod enc Tryz.prog W base sp held n4 33 ((cs.drop 13).take (Tryz.prog.cellsOf 33))=some y4:=h4
 rw[bC4] at h4
 replace h5:DataW.trod enc Tryz.prog W base sp held n5 28 ((cs.drop 16).take (Tryz.prog.cellsOf 28))=some y5:=h5
 rw[aR7] at h5
 replace h6:DataW.trod enc Tryz.prog W base sp held n6 2 ((cs.drop 17).take (Tryz.prog.cellsOf 2))=some y6:=h6
 rw[BJ] at h6
 replace h7:DataW.trod enc Tryz.prog W base sp held n7 34 ((cs.drop 18).take (Tryz.prog.cellsOf 34))=some y7:=h7
 rw[cH0] at h7
 have hend:cs.drop 19=[]:=List.drop_eq_nil_of_le oM
 have E:=((lQ cs 0 4 4 rfl).trans (congrArg (fun z=>((cs.drop 0).take 4)++z) ((lQ cs 4 4 8 rfl).trans (congrArg (fun z=>((cs.drop 4).take 4)++z) ((lQ cs 8 4 12 rfl).trans (congrArg (fun z=>((cs.drop 8).take 4)++z) ((lQ cs 12 1 13 rfl).trans (congrArg (fun z=>((cs.drop 12).take 1)++z) ((lQ cs 13 3 16 rfl).trans (congrArg (fun z=>((cs.drop 13).take 3)++z) ((lQ cs 16 1 17 rfl).trans (congrArg (fun z=>((cs.drop 16).take 1)++z) ((lQ cs 17 1 18 rfl).trans (congrArg (fun z=>((cs.drop 17).take 1)++z) ((lQ cs 18 1 19 rfl).trans (congrArg (fun z=>((cs.drop 18).take 1)++z) hend))))))))))))))))
 obtain⟨a0,r0⟩:=cM7 h0
 obtain⟨a1,r1⟩:=bC6 h1
 obtain⟨a2,r2⟩:=bC6 h2
 obtain⟨a3,e3,_⟩:=DataW.trod_bool Tryz.underlying4 h3
 rw[e3] at E
 obtain⟨a4,r4⟩:=cH8 h4
 obtain⟨v5,a5,e5,r5⟩:=aR8 h5
 rw[e5] at E
 obtain⟨a6,e6,_⟩:=DataW.trod_int Tryz.underlying2 h6
 rw[e6] at E
 obtain⟨v7,a7,e7,r7⟩:=cH6 h7
 rw[e7] at E
 exact⟨⟨a0,a1,a2,a3,a4,a5,a6,a7⟩,((cs.drop 0).take 4),((cs.drop 4).take 4),((cs.drop 8).take 4),((cs.drop 13).take 3),v5,v7,congrArg (fun l:List Value=>Value.agg l.toArray) E,(by simp[hl]),(by simp[hl]),(by simp[hl]),(by simp[hl]),r0,r1,r2,r4,r5,r7⟩
theorem aH0{fuel:Nat}{cs:List Value}{x:DataW H × List MemPlace}(h:DataW.trod enc Tryz.prog W base sp held fuel 57 cs=some x):∃d:AN,CU W (.agg cs.toArray) d:=by
 have hl:=FR Tryz.underlying57 h
 rw[XM] at hl
 obtain⟨n0,y0,h0⟩:=Bw Tryz.underlying57 h 0 _ rfl
 obtain⟨n1,y1,h1⟩:=Bw Tryz.underlying57 h 1 _ rfl
 obtain⟨n2,y2,h2⟩:=Bw Tryz.underlying57 h 2 _ rfl
 obtain⟨n3,y3,h3⟩:=Bw Tryz.underlying57 h 3 _ rfl
 replace h0:DataW.trod enc Tryz.prog W base sp held n0 2 ((cs.drop 0).take (Tryz.prog.cellsOf 2))=some y0:=h0
 rw[BJ] at h0
 replace h1:DataW.trod enc Tryz.prog W base sp held n1 54 ((cs.drop 1).take (Tryz.prog.cellsOf 54))=some y1:=h1
 rw[bW5] at h1
 replace h2:DataW.trod enc Tryz.prog W base sp held n2 55 ((cs.drop 2).take (Tryz.prog.cellsOf 55))=some y2:=h2
 rw[cG9] at h2
 replace h3:DataW.trod enc Tryz.prog W base sp held n3 2 ((cs.drop 3).take (Tryz.prog.cellsOf 2))=some y3:=h3
 rw[BJ] at h3
 have hend:cs.drop 4=[]:=List.drop_eq_nil_of_le oM
 have E:=((lQ cs 0 1 1 rfl).trans (congrArg (fun z=>((cs.drop 0).take 1)++z) ((lQ cs 1 1 2 rfl).trans (congrArg (fun z=>((cs.drop 1).take 1)++z) ((lQ cs 2 1 3 rfl).trans (congrArg (fun z=>((cs.drop 2).take 1)++z) ((lQ cs 3 1 4 rfl).trans (congrArg (fun z=>((cs.drop 3).take 1)++z) hend))))))))
 obtain⟨a0,e0,_⟩:=DataW.trod_int Tryz.underlying2 h0
 rw[e0] at E
 obtain⟨v1,a1,e1,r1⟩:=bX1 h1
 rw[e1] at E
 obtain⟨v2,a2,e2,r2⟩:=cH5 h2
 rw[e2] at E
 obtain⟨a3,e3,_⟩:=DataW.trod_int Tryz.underlying2 h3
 rw[e3] at E
 exact⟨⟨a0,a1,a2,a3⟩,v1,v2,congrArg (fun l:List Value=>Value.agg l.toArray) E,r1,r2⟩
theorem cM8{fuel:Nat}{cs:List Value}{x:DataW H × List MemPlace}(h:DataW.trod enc Tryz.prog W base sp held fuel 61 cs=some x):∃d:KO,ND W (.agg cs.toArray) d:=by
 have hl:=FR Tryz.underlying61 h
 rw[bW9] at hl
 obtain⟨n0,y0,h0⟩:=Bw Tryz.underlying61 h 0 _ rfl
 obtain⟨n1,y1,h1⟩:=Bw Tryz.underlying61 h 1 _ rfl
 replace h0:DataW.trod enc Tryz.prog W base sp held n0 58 ((cs.drop 0).take (Tryz.prog.cellsOf 58))=some y0:=h0
 rw[cH1] at h0
 replace h1:DataW.trod enc Tryz.prog W base sp held n1 59 ((cs.drop 1).take (Tryz.prog.cellsOf 59))=some y1:=h1
 rw[bW6] at h1
 have hend:cs.drop 2=[]:=List.drop_eq_nil_of_le oM
 have E:=((lQ cs 0 1 1 rfl).trans (congrArg (fun z=>((cs.drop 0).take 1)++z) ((lQ cs 1 1 2 rfl).trans (congrArg (fun z=>((cs.drop 1).take 1)++z) hend))))
 obtain⟨v0,a0,e0,r0⟩:=cH7 h0
 rw[e0] at E
 obtain⟨v1,a1,e1,r1⟩:=bX2 h1
 rw[e1] at E
 exact⟨⟨a0,a1⟩,v0,v1,congrArg (fun l:List Value=>Value.agg l.toArray) E,r0,r1⟩
theorem bX5{fuel:Nat}{cs:List Value}{x:DataW H × List MemPlace}(h:DataW.trod enc Tryz.prog W base sp held fuel 65 cs=some x):∃d:DU,EC W (.agg cs.toArray) d:=by
 have hl:=FR Tryz.underlying65 h
 rw[bX0] at hl
 obtain⟨n0,y0,h0⟩:=Bw Tryz.underlying65 h 0 _ rfl
 obtain⟨n1,y1,h1⟩:=Bw Tryz.underlying65 h 1 _ rfl
 obtain⟨n2,y2,h2⟩:=Bw Tryz.underlying65 h 2 _ rfl
 obtain⟨n3,y3,h3⟩:=Bw Tryz.underlying65 h 3 _ rfl
 obtain⟨n4,y4,h4⟩:=Bw Tryz.underlying65 h 4 _ rfl
 obtain⟨n5,y5,h5⟩:=Bw Tryz.underlying65 h 5 _ rfl
 obtain⟨n6,y6,h6⟩:=Bw Tryz.underlying65 h 6 _ rfl
 obtain⟨n7,y7,h7⟩:=Bw Tryz.underlying65 h 7 _ rfl
 obtain⟨n8,y8,h8⟩:=Bw Tryz.underlying65 h 8 _ rfl
 replace h0:DataW.trod enc Tryz.prog W base sp held n0 36 ((cs.drop 0).take (Tryz.prog.cellsOf 36))=some y0:=h0
 rw[aB7] at h0
 replace h1:DataW.trod enc Tryz.prog W base sp held n1 44 ((cs.drop 19).take (Tryz.prog.cellsOf 44))=some y1:=h1
 rw[aN8] at h1
 replace h2:DataW.trod enc Tryz.prog W base sp held n2 53 ((cs.drop 31).take (Tryz.prog.cellsOf 53))=some y2:=h2
 rw[ZU] at h2
 replace h3:DataW.trod enc Tryz.prog W base sp held n3 53 ((cs.drop 46).take (Tryz.prog.cellsOf 53))=some y3:=h3
 rw[ZU] at h3
 replace h4:DataW.trod enc Tryz.prog W base sp held n4 57 ((cs.drop 61).take (Tryz.prog.cellsOf 57))=some y4:=h4
 rw[XM] at h4
 replace h5:DataW.trod enc Tryz.prog W base sp held n5 57 ((cs.drop 65).take (Tryz.prog.cellsOf 57))=some y5:=h5
 rw[XM] at h5
 replace h6:DataW.trod enc Tryz.prog W base sp held n6 61 ((cs.drop 69).take (Tryz.prog.cellsOf 61))=some y6:=h6
 rw[bW9] at h6
 replace h7:DataW.trod enc Tryz.prog W base sp held n7 62 ((cs.drop 71).take (Tryz.prog.cellsOf 62))=some y7:=h7
 rw[UI] at h7
 replace h8:DataW.trod enc Tryz.prog W base sp held n8 63 ((cs.drop 72).take (Tryz.prog.cellsOf 63))=some y8:=h8
 rw[bW7] at h8
 have hend:cs.drop 73=[]:=List.drop_eq_nil_of_le oM
 have E:=((lQ cs 0 19 19 rfl).trans (congrArg (fun z=>((cs.drop 0).take 19)++z) ((lQ cs 19 12 31 rfl).trans (congrArg (fun z=>((cs.drop 19).take 12)++z) ((lQ cs 31 15 46 rfl).trans (congrArg (fun z=>((cs.drop 31).take 15)++z) ((lQ cs 46 15 61 rfl).trans (congrArg (fun z=>((cs.drop 46).take 15)++z) ((lQ cs 61 4 65 rfl).trans (congrArg (fun z=>((cs.drop 61).take 4)++z) ((lQ cs 65 4 69 rfl).trans (congrArg (fun z=>((cs.drop 65).take 4)++z) ((lQ cs 69 2 71 rfl).trans (congrArg (fun z=>((cs.drop 69).take 2)++z) ((lQ cs 71 1 72 rfl).trans (congrArg (fun z=>((cs.drop 71).take 1)++z) ((lQ cs 72 1 73 rfl).trans (congrArg (fun z=>((cs.drop 72).take 1)++z) hend))))))))))))))))))
 obtain⟨a0,r0⟩:=aY0 h0
 obtain⟨a1,r1⟩:=bX4 h1
 obtain⟨a2,r2⟩:=aR9 h2
 obtain⟨a3,r3⟩:=aR9 h3
 obtain⟨a4,r4⟩:=aH0 h4
 obtain⟨a5,r5⟩:=aH0 h5
 obtain⟨a6,r6⟩:=cM8 h6
 obtain⟨v7,a7,e7,r7⟩:=UJ h7
 rw[e7] at E
 obtain⟨v8,a8,e8,r8⟩:=bX3 h8
 rw[e8] at E
 exact⟨⟨a0,a1,a2,a3,a4,a5,a6,a7,a8⟩,((cs.drop 0).take 19),((cs.drop 19).take 12),((cs.drop 31).take 15),((cs.drop 46).take 15),((cs.drop 61).take 4),((cs.drop 65).take 4),((cs.drop 69).take 2),v7,v8,congrArg (fun l:List Value=>Value.agg l.toArray) E,(by simp[hl]),(by simp[hl]),(by simp[hl]),(by simp[hl]),(by simp[hl]),(by simp[hl]),(by simp[hl]),r0,r1,r2,r3,r4,r5,r6,r7,r8⟩
end
end
end Go.Proofs.YtkpmbocbbgocbaaGreat
