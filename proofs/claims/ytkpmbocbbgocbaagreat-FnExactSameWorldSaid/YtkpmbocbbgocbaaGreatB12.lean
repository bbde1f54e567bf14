/- Open4. -/
import Derived.Test.YtkpmbocbbgocbaaGreatGa
import Derived.Test.YtkpmbocbbgocbaaGreatGc
import Derived.Test.YtkpmbocbbgocbaaGreatB3
set_option linter.unusedSimpArgs false
set_option linter.unusedVariables false
set_option maxHeartbeats 8000000
set_option maxRecDepth 100000
namespace Go.G8
theorem flatMap_one {α β:Type} (f:α→β):∀ l:List α,l.flatMap (fun y=>[f y])=l.map f
 | []=>rfl
 | x :: l=>by rw [List.flatMap_cons,flatMap_one f l];rfl
theorem drop_split (cs:List Value) (o n m:Nat) (h:o+n=m):cs.drop o=(cs.drop o).take n ++ cs.drop m:=by
 rw [← h,← List.drop_drop]
 exact (List.take_append_drop n (cs.drop o)).symm
end Go.G8
namespace Go.Proofs.YtkpmbocbbgocbaaGreat
open Go.ChangeShapes Go.WideShapes Go.ChangeAt Go.RowKit Go.G8
theorem cc_Mark:Tryz.prog.cellsOf 292=3:=by kernel_rfl
theorem cc_Want:Tryz.prog.cellsOf 175=7:=by kernel_rfl
theorem cc_Got:Tryz.prog.cellsOf 302=4:=by kernel_rfl
theorem cc_Link:Tryz.prog.cellsOf 305=2:=by kernel_rfl
theorem cc_Msg:Tryz.prog.cellsOf 272=3:=by kernel_rfl
theorem cc_MarkS:Tryz.prog.cellsOf 28=1:=by kernel_rfl
theorem cc_WantS:Tryz.prog.cellsOf 54=1:=by kernel_rfl
theorem cc_GotS:Tryz.prog.cellsOf 55=1:=by kernel_rfl
theorem cc_LinkS:Tryz.prog.cellsOf 59=1:=by kernel_rfl
theorem cc_AckS:Tryz.prog.cellsOf 34=1:=by kernel_rfl
theorem cc_MsgS:Tryz.prog.cellsOf 58=1:=by kernel_rfl
theorem cc_BoolS:Tryz.prog.cellsOf 63=1:=by kernel_rfl
theorem cc_Two:Tryz.prog.cellsOf 27=4:=by kernel_rfl
theorem cc_Head:Tryz.prog.cellsOf 30=4:=by kernel_rfl
theorem cc_Book:Tryz.prog.cellsOf 33=3:=by kernel_rfl
theorem cc_LogNode:Tryz.prog.cellsOf 36=19:=by kernel_rfl
theorem cc_Client:Tryz.prog.cellsOf 57=4:=by kernel_rfl
theorem cc_Net:Tryz.prog.cellsOf 61=2:=by kernel_rfl
theorem cc_World:Tryz.prog.cellsOf 65=73:=by kernel_rfl
section
variable {H:Type} {enc:TypeId × Value→H} {W:World} {base:Nat} {sp:Nat→Bool} {held:Bool}
theorem rl_Mark {fuel:Nat} {cs:List Value} {x:DataW H × List MemPlace} (h:DataW.trod enc Tryz.prog W base sp held fuel 292 cs=some x):∃ (c0:Int) (c1:Int) (c2:Int),cs=[.int .i64 c0,.int .i64 c1,.int .i64 c2]:=by
 have hl:=rd_len Tryz.underlying292 h
 rw [cc_Mark] at hl
 obtain⟨v0,v1,v2,rfl⟩:∃ v0 v1 v2,cs=[v0,v1,v2]:=by match cs,hl with|[v0,v1,v2],_=>exact⟨v0,v1,v2,rfl⟩
 obtain⟨n0,y0,h0⟩:=rd_field Tryz.underlying292 h 0 _ rfl
 obtain⟨n1,y1,h1⟩:=rd_field Tryz.underlying292 h 1 _ rfl
 obtain⟨n2,y2,h2⟩:=rd_field Tryz.underlying292 h 2 _ rfl
 simp [cc_Int64] at h0 h1 h2
 obtain⟨a0,e0,_⟩:=DataW.trod_int Tryz.underlying2 h0
 simp at e0
 subst e0
 obtain⟨a1,e1,_⟩:=DataW.trod_int Tryz.underlying2 h1
 simp at e1
 subst e1
 obtain⟨a2,e2,_⟩:=DataW.trod_int Tryz.underlying2 h2
 simp at e2
 subst e2
 exact⟨a0,a1,a2,rfl⟩
theorem rl_Want {fuel:Nat} {cs:List Value} {x:DataW H × List MemPlace} (h:DataW.trod enc Tryz.prog W base sp held fuel 175 cs=some x):∃ (c0:Int) (c1:Int) (c2:Int) (c3:Int) (c4:Int) (c5:Int) (c6:Int),cs=[.int .i64 c0,.int .i64 c1,.int .i64 c2,.int .i64 c3,.int .i64 c4,.int .i64 c5,.int .i64 c6]:=by
 have hl:=rd_len Tryz.underlying175 h
 rw [cc_Want] at hl
 obtain⟨v0,v1,v2,v3,v4,v5,v6,rfl⟩:∃ v0 v1 v2 v3 v4 v5 v6,cs=[v0,v1,v2,v3,v4,v5,v6]:=by match cs,hl with|[v0,v1,v2,v3,v4,v5,v6],_=>exact⟨v0,v1,v2,v3,v4,v5,v6,rfl⟩
 obtain⟨n0,y0,h0⟩:=rd_field Tryz.underlying175 h 0 _ rfl
 obtain⟨n1,y1,h1⟩:=rd_field Tryz.underlying175 h 1 _ rfl
 obtain⟨n2,y2,h2⟩:=rd_field Tryz.underlying175 h 2 _ rfl
 simp [cc_Int64,cc_Op] at h0 h1 h2
 obtain⟨a0,e0,_⟩:=DataW.trod_int Tryz.underlying2 h0
 simp at e0
 subst e0
 obtain⟨z1c0,z1c1,z1c2,z1c3,z1c4,e1⟩:=rl_Op h1
 simp at e1
 obtain⟨e1_0,e1_1,e1_2,e1_3,e1_4⟩:=e1
 subst e1_0;subst e1_1;subst e1_2;subst e1_3;subst e1_4
 obtain⟨a6,e6,_⟩:=DataW.trod_int Tryz.underlying2 h2
 simp at e6
 subst e6
 exact⟨a0,_,_,_,_,_,a6,rfl⟩
theorem rl_Got {fuel:Nat} {cs:List Value} {x:DataW H × List MemPlace} (h:DataW.trod enc Tryz.prog W base sp held fuel 302 cs=some x):∃ (c0:Int) (c1:Int) (c2:Int) (c3:Int),cs=[.int .i64 c0,.int .i64 c1,.int .i64 c2,.int .i64 c3]:=by
 have hl:=rd_len Tryz.underlying302 h
 rw [cc_Got] at hl
 obtain⟨v0,v1,v2,v3,rfl⟩:∃ v0 v1 v2 v3,cs=[v0,v1,v2,v3]:=by match cs,hl with|[v0,v1,v2,v3],_=>exact⟨v0,v1,v2,v3,rfl⟩
 obtain⟨n0,y0,h0⟩:=rd_field Tryz.underlying302 h 0 _ rfl
 obtain⟨n1,y1,h1⟩:=rd_field Tryz.underlying302 h 1 _ rfl
 obtain⟨n2,y2,h2⟩:=rd_field Tryz.underlying302 h 2 _ rfl
 obtain⟨n3,y3,h3⟩:=rd_field Tryz.underlying302 h 3 _ rfl
 simp [cc_Int64] at h0 h1 h2 h3
 obtain⟨a0,e0,_⟩:=DataW.trod_int Tryz.underlying2 h0
 simp at e0
 subst e0
 obtain⟨a1,e1,_⟩:=DataW.trod_int Tryz.underlying2 h1
 simp at e1
 subst e1
 obtain⟨a2,e2,_⟩:=DataW.trod_int Tryz.underlying2 h2
 simp at e2
 subst e2
 obtain⟨a3,e3,_⟩:=DataW.trod_int Tryz.underlying2 h3
 simp at e3
 subst e3
 exact⟨a0,a1,a2,a3,rfl⟩
theorem rl_Link {fuel:Nat} {cs:List Value} {x:DataW H × List MemPlace} (h:DataW.trod enc Tryz.prog W base sp held fuel 305 cs=some x):∃ (c0:Int) (c1:Int),cs=[.int .i64 c0,.int .i64 c1]:=by
 have hl:=rd_len Tryz.underlying305 h
 rw [cc_Link] at hl
 obtain⟨v0,v1,rfl⟩:∃ v0 v1,cs=[v0,v1]:=by match cs,hl with|[v0,v1],_=>exact⟨v0,v1,rfl⟩
 obtain⟨n0,y0,h0⟩:=rd_field Tryz.underlying305 h 0 _ rfl
 obtain⟨n1,y1,h1⟩:=rd_field Tryz.underlying305 h 1 _ rfl
 simp [cc_Int64] at h0 h1
 obtain⟨a0,e0,_⟩:=DataW.trod_int Tryz.underlying2 h0
 simp at e0
 subst e0
 obtain⟨a1,e1,_⟩:=DataW.trod_int Tryz.underlying2 h1
 simp at e1
 subst e1
 exact⟨a0,a1,rfl⟩
theorem rl_Msg {fuel:Nat} {cs:List Value} {x:DataW H × List MemPlace} (h:DataW.trod enc Tryz.prog W base sp held fuel 272 cs=some x):∃ (c0:Int) (c1:Int) (s2:Value) (l2:List Int),cs=[.int .i64 c0,.int .i64 c1,s2]∧Ints 1 W s2 l2:=by
 have hl:=rd_len Tryz.underlying272 h
 rw [cc_Msg] at hl
 obtain⟨v0,v1,v2,rfl⟩:∃ v0 v1 v2,cs=[v0,v1,v2]:=by match cs,hl with|[v0,v1,v2],_=>exact⟨v0,v1,v2,rfl⟩
 obtain⟨n0,y0,h0⟩:=rd_field Tryz.underlying272 h 0 _ rfl
 obtain⟨n1,y1,h1⟩:=rd_field Tryz.underlying272 h 1 _ rfl
 obtain⟨n2,y2,h2⟩:=rd_field Tryz.underlying272 h 2 _ rfl
 simp [cc_Int64,cc_Int64S] at h0 h1 h2
 obtain⟨a0,e0,_⟩:=DataW.trod_int Tryz.underlying2 h0
 simp at e0
 subst e0
 obtain⟨a1,e1,_⟩:=DataW.trod_int Tryz.underlying2 h1
 simp at e1
 subst e1
 obtain⟨a2,m2,e2,r2⟩:=rl_Int64S h2
 simp at e2
 subst e2
 exact⟨a0,a1,_,m2,rfl,r2⟩
theorem rl_MarkS {fuel:Nat} {cs:List Value} {x:DataW H × List MemPlace} (h:DataW.trod enc Tryz.prog W base sp held fuel 28 cs=some x):∃ (s:Value) (l:List DMark),cs=[s]∧Ints 3 W s (flMark l):=by
 rcases Deep.open_slice Tryz.underlying28 h with ⟨rfl,_⟩|⟨a,len,cap,m,n,D,Pl,rfl,hb,hl,hm,hmm,_,hx⟩
 ·
  exact⟨_,[],rfl,Ints.nil 3 W⟩
 have hlm:len≤m:=by rw [hmm];split <;> omega
 obtain⟨l,_,hi⟩:=Ints.of_each (f:=DMark.ints) (n:=3) (fun _=>rfl) dC (w:=W) (a:=a) hl hm (fun i hi=>by
  obtain⟨cs',hc,ht⟩:=hx i oM
  rw [cc_Mark] at hc
  obtain⟨b0,b1,b2,rfl⟩:=rl_Mark ht
  obtain⟨_,_,hcell⟩:=World.cells?_some hc
  refine⟨⟨b0,b1,b2⟩,fun j u hu=>?_⟩
  have hj:j<3:=by
   rcases Nat.lt_or_ge j 3 with h'|h'
   ·
    exact h'
   rw [List.getElem?_eq_none (by simpa [DMark.ints] using h')] at hu;cases hu
  rw [hcell j hj]
  match j,hj,hu with
  | 0,_,hu=>simpa [DMark.ints] using hu
  | 1,_,hu=>simpa [DMark.ints] using hu
  | 2,_,hu=>simpa [DMark.ints] using hu)
 exact⟨_,l,rfl,hi⟩
theorem rl_WantS {fuel:Nat} {cs:List Value} {x:DataW H × List MemPlace} (h:DataW.trod enc Tryz.prog W base sp held fuel 54 cs=some x):∃ (s:Value) (l:List DWant),cs=[s]∧Ints 7 W s (flWant l):=by
 rcases Deep.open_slice Tryz.underlying54 h with ⟨rfl,_⟩|⟨a,len,cap,m,n,D,Pl,rfl,hb,hl,hm,hmm,_,hx⟩
 ·
  exact⟨_,[],rfl,Ints.nil 7 W⟩
 have hlm:len≤m:=by rw [hmm];split <;> omega
 obtain⟨l,_,hi⟩:=Ints.of_each (f:=DWant.ints) (n:=7) (fun _=>rfl) dC (w:=W) (a:=a) hl hm (fun i hi=>by
  obtain⟨cs',hc,ht⟩:=hx i oM
  rw [cc_Want] at hc
  obtain⟨b0,b1,b2,b3,b4,b5,b6,rfl⟩:=rl_Want ht
  obtain⟨_,_,hcell⟩:=World.cells?_some hc
  refine⟨⟨b0,⟨b1,b2,b3,b4,b5⟩,b6⟩,fun j u hu=>?_⟩
  have hj:j<7:=by
   rcases Nat.lt_or_ge j 7 with h'|h'
   ·
    exact h'
   rw [List.getElem?_eq_none (by simpa [DWant.ints] using h')] at hu;cases hu
  rw [hcell j hj]
  match j,hj,hu with
  | 0,_,hu=>simpa [DWant.ints] using hu
  | 1,_,hu=>simpa [DWant.ints] using hu
  | 2,_,hu=>simpa [DWant.ints] using hu
  | 3,_,hu=>simpa [DWant.ints] using hu
  | 4,_,hu=>simpa [DWant.ints] using hu
  | 5,_,hu=>simpa [DWant.ints] using hu
  | 6,_,hu=>simpa [DWant.ints] using hu)
 exact⟨_,l,rfl,hi⟩
theorem rl_GotS {fuel:Nat} {cs:List Value} {x:DataW H × List MemPlace} (h:DataW.trod enc Tryz.prog W base sp held fuel 55 cs=some x):∃ (s:Value) (l:List DGot),cs=[s]∧Ints 4 W s (flGot l):=by
 rcases Deep.open_slice Tryz.underlying55 h with ⟨rfl,_⟩|⟨a,len,cap,m,n,D,Pl,rfl,hb,hl,hm,hmm,_,hx⟩
 ·
  exact⟨_,[],rfl,Ints.nil 4 W⟩
 have hlm:len≤m:=by rw [hmm];split <;> omega
 obtain⟨l,_,hi⟩:=Ints.of_each (f:=DGot.ints) (n:=4) (fun _=>rfl) dC (w:=W) (a:=a) hl hm (fun i hi=>by
  obtain⟨cs',hc,ht⟩:=hx i oM
  rw [cc_Got] at hc
  obtain⟨b0,b1,b2,b3,rfl⟩:=rl_Got ht
  obtain⟨_,_,hcell⟩:=World.cells?_some hc
  refine⟨⟨b0,b1,b2,b3⟩,fun j u hu=>?_⟩
  have hj:j<4:=by
   rcases Nat.lt_or_ge j 4 with h'|h'
   ·
    exact h'
   rw [List.getElem?_eq_none (by simpa [DGot.ints] using h')] at hu;cases hu
  rw [hcell j hj]
  match j,hj,hu with
  | 0,_,hu=>simpa [DGot.ints] using hu
  | 1,_,hu=>simpa [DGot.ints] using hu
  | 2,_,hu=>simpa [DGot.ints] using hu
  | 3,_,hu=>simpa [DGot.ints] using hu)
 exact⟨_,l,rfl,hi⟩
theorem rl_LinkS {fuel:Nat} {cs:List Value} {x:DataW H × List MemPlace} (h:DataW.trod enc Tryz.prog W base sp held fuel 59 cs=some x):∃ (s:Value) (l:List DLink),cs=[s]∧Ints 2 W s (flLink l):=by
 rcases Deep.open_slice Tryz.underlying59 h with ⟨rfl,_⟩|⟨a,len,cap,m,n,D,Pl,rfl,hb,hl,hm,hmm,_,hx⟩
 ·
  exact⟨_,[],rfl,Ints.nil 2 W⟩
 have hlm:len≤m:=by rw [hmm];split <;> omega
 obtain⟨l,_,hi⟩:=Ints.of_each (f:=DLink.ints) (n:=2) (fun _=>rfl) dC (w:=W) (a:=a) hl hm (fun i hi=>by
  obtain⟨cs',hc,ht⟩:=hx i oM
  rw [cc_Link] at hc
  obtain⟨b0,b1,rfl⟩:=rl_Link ht
  obtain⟨_,_,hcell⟩:=World.cells?_some hc
  refine⟨⟨b0,b1⟩,fun j u hu=>?_⟩
  have hj:j<2:=by
   rcases Nat.lt_or_ge j 2 with h'|h'
   ·
    exact h'
   rw [List.getElem?_eq_none (by simpa [DLink.ints] using h')] at hu;cases hu
  rw [hcell j hj]
  match j,hj,hu with
  | 0,_,hu=>simpa [DLink.ints] using hu
  | 1,_,hu=>simpa [DLink.ints] using hu)
 exact⟨_,l,rfl,hi⟩
theorem rl_AckS {fuel:Nat} {cs:List Value} {x:DataW H × List MemPlace} (h:DataW.trod enc Tryz.prog W base sp held fuel 34 cs=some x):∃ (s:Value) (l:List DAck),cs=[s]∧Ints 4 W s (flAck l):=by
 rcases Deep.open_slice Tryz.underlying34 h with ⟨rfl,_⟩|⟨a,len,cap,m,n,D,Pl,rfl,hb,hl,hm,hmm,_,hx⟩
 ·
  exact⟨_,[],rfl,Ints.nil 4 W⟩
 have hlm:len≤m:=by rw [hmm];split <;> omega
 obtain⟨l,_,hi⟩:=Ints.of_each (f:=DAck.ints) (n:=4) (fun _=>rfl) dC (w:=W) (a:=a) hl hm (fun i hi=>by
  obtain⟨cs',hc,ht⟩:=hx i oM
  rw [cc_Ack] at hc
  obtain⟨b0,b1,b2,b3,rfl⟩:=rl_Ack ht
  obtain⟨_,_,hcell⟩:=World.cells?_some hc
  refine⟨⟨b0,b1,b2,b3⟩,fun j u hu=>?_⟩
  have hj:j<4:=by
   rcases Nat.lt_or_ge j 4 with h'|h'
   ·
    exact h'
   rw [List.getElem?_eq_none (by simpa [DAck.ints] using h')] at hu;cases hu
  rw [hcell j hj]
  match j,hj,hu with
  | 0,_,hu=>simpa [DAck.ints] using hu
  | 1,_,hu=>simpa [DAck.ints] using hu
  | 2,_,hu=>simpa [DAck.ints] using hu
  | 3,_,hu=>simpa [DAck.ints] using hu)
 exact⟨_,l,rfl,hi⟩
theorem rl_MsgS {fuel:Nat} {cs:List Value} {x:DataW H × List MemPlace} (h:DataW.trod enc Tryz.prog W base sp held fuel 58 cs=some x):∃ (s:Value) (l:List DMsg),cs=[s]∧Nest 2 W s (nestMsg l):=by
 rcases Deep.open_slice Tryz.underlying58 h with ⟨rfl,_⟩|⟨a,len,cap,m,n,D,Pl,rfl,hb,hl,hm,hmm,_,hx⟩
 ·
  exact⟨_,[],rfl,Nest.nil 2 W⟩
 have hlm:len≤m:=by rw [hmm];split <;> omega
 obtain⟨l,_,hi⟩:=Nest.of_each (f:=fun d:DMsg=>(([d.From,d.To],d.Row):NRow)) (n:=2) (fun _=>rfl) (w:=W) (a:=a) hl hm (fun i hi=>by
  obtain⟨cs',hc,ht⟩:=hx i oM
  rw [cc_Msg] at hc
  obtain⟨c0,c1,s,d,rfl,hd⟩:=rl_Msg ht
  obtain⟨_,_,hcell⟩:=World.cells?_some hc
  refine⟨⟨c0,c1,d⟩,s,fun j u hu=>?_,hd⟩
  have hj:j<3:=by simpa [ncell] using (List.getElem?_eq_some_iff.1 hu).1
  rw [hcell j hj]
  match j,hj,hu with
  | 0,_,hu=>simpa [ncell] using hu
  | 1,_,hu=>simpa [ncell] using hu
  | 2,_,hu=>simpa [ncell] using hu)
 exact⟨_,l,rfl,hi⟩
theorem rl_BoolS {fuel:Nat} {cs:List Value} {x:DataW H × List MemPlace} (h:DataW.trod enc Tryz.prog W base sp held fuel 63 cs=some x):∃ (s:Value) (l:List Bool),cs=[s]∧RdBoolS W s l:=by
 rcases Deep.open_slice Tryz.underlying63 h with ⟨rfl,_⟩|⟨a,len,cap,m,n,D,Pl,rfl,hb,hl,hm,hmm,_,hx⟩
 ·
  exact⟨_,[],rfl,Sl.nil 1 W⟩
 have hlm:len≤m:=by rw [hmm];split <;> omega
 obtain⟨l,hll,hp⟩:=choose_list (p:=fun i (y:Bool)=>W.cell? ((a.add (i * 1)).add 0)=some (.bool y)) len (fun i hi=>by
  obtain⟨cs',hc,ht⟩:=hx i oM
  rw [cc_Bool] at hc
  obtain⟨d,rfl,_⟩:=DataW.trod_bool Tryz.underlying4 ht
  obtain⟨_,_,hcell⟩:=World.cells?_some hc
  exact⟨d,by rw [hcell 0 dC];rfl⟩)
 have:=Sl.of_each (f:=fun y:Bool=>[Value.bool y]) (n:=1) dC (w:=W) (a:=a) hl hm l hll (fun _ _=>rfl) (fun i d hd j u hu=>by
  obtain rfl:j=0:=by have:=(List.getElem?_eq_some_iff.1 hu).1;simp at this;omega
  simp at hu
  rw [hp i d hd,← hu])
 rw [show l.flatMap (fun y:Bool=>[Value.bool y])=l.map Value.bool from flatMap_one Value.bool l] at this
 exact⟨_,l,rfl,this⟩
theorem rk_Disk {fuel:Nat} {cs:List Value} {x:DataW H × List MemPlace} (h:DataW.trod enc Tryz.prog W base sp held fuel 25 cs=some x):∃ d:DDisk,RdDisk W (.agg cs.toArray) d:=by
 obtain⟨s0,l0,s1,l1,rfl,h0,h1⟩:=rl_Disk h
 exact⟨⟨l0,l1⟩,s0,s1,rfl,h0,h1⟩
theorem rk_Store {fuel:Nat} {cs:List Value} {x:DataW H × List MemPlace} (h:DataW.trod enc Tryz.prog W base sp held fuel 44 cs=some x):∃ d:DStore,RdStore W (.agg cs.toArray) d:=by
 obtain⟨s0,l0,s1,l1,c2,c3,s4,l4,s5,l5,c6,c7,c8,c9,c10,c11,rfl,h0,h1,h4,h5⟩:=rl_Store h
 exact⟨⟨⟨l0,l1⟩,⟨c2,c3,l4,l5,⟨c6,c7,c8⟩⟩,c9,c10,c11⟩,s0,s1,s4,s5,rfl,h0,h1,h4,h5⟩
theorem rk_Sched {fuel:Nat} {cs:List Value} {x:DataW H × List MemPlace} (h:DataW.trod enc Tryz.prog W base sp held fuel 53 cs=some x):∃ d:DSched,RdSched W (.agg cs.toArray) d:=by
 obtain⟨c0,c1,c2,c3,c4,c5,c6,s7,l7,c8,c9,c10,c11,c12,c13,c14,rfl,h7⟩:=rl_Sched h
 exact⟨⟨c0,c1,⟨⟨c2,c3,c4,c5,c6,l7⟩⟩,c8,⟨c9,c10,c11,c12,c13⟩,c14⟩,s7,rfl,h7⟩
theorem rk_Two {fuel:Nat} {cs:List Value} {x:DataW H × List MemPlace} (h:DataW.trod enc Tryz.prog W base sp held fuel 27 cs=some x):∃ d:DTwo,RdTwo W (.agg cs.toArray) d:=by
 have hl:=rd_len Tryz.underlying27 h
 rw [cc_Two] at hl
 obtain⟨n0,y0,h0⟩:=rd_field Tryz.underlying27 h 0 _ rfl
 obtain⟨n1,y1,h1⟩:=rd_field Tryz.underlying27 h 1 _ rfl
 replace h0:DataW.trod enc Tryz.prog W base sp held n0 25 ((cs.drop 0).take (Tryz.prog.cellsOf 25))=some y0:=h0
 rw [cc_Disk] at h0
 replace h1:DataW.trod enc Tryz.prog W base sp held n1 25 ((cs.drop 2).take (Tryz.prog.cellsOf 25))=some y1:=h1
 rw [cc_Disk] at h1
 have hend:cs.drop 4=[]:=List.drop_eq_nil_of_le oM
 have E:=((drop_split cs 0 2 2 rfl).trans (congrArg (fun z=>((cs.drop 0).take 2) ++ z) ((drop_split cs 2 2 4 rfl).trans (congrArg (fun z=>((cs.drop 2).take 2) ++ z) hend))))
 obtain⟨a0,r0⟩:=rk_Disk h0
 obtain⟨a1,r1⟩:=rk_Disk h1
 exact⟨⟨a0,a1⟩,((cs.drop 0).take 2),((cs.drop 2).take 2),congrArg (fun l:List Value=>Value.agg l.toArray) E,(by simp [hl]),(by simp [hl]),r0,r1⟩
theorem rk_Head {fuel:Nat} {cs:List Value} {x:DataW H × List MemPlace} (h:DataW.trod enc Tryz.prog W base sp held fuel 30 cs=some x):∃ d:DHead,RdHead W (.agg cs.toArray) d:=by
 have hl:=rd_len Tryz.underlying30 h
 rw [cc_Head] at hl
 obtain⟨n0,y0,h0⟩:=rd_field Tryz.underlying30 h 0 _ rfl
 obtain⟨n1,y1,h1⟩:=rd_field Tryz.underlying30 h 1 _ rfl
 obtain⟨n2,y2,h2⟩:=rd_field Tryz.underlying30 h 2 _ rfl
 obtain⟨n3,y3,h3⟩:=rd_field Tryz.underlying30 h 3 _ rfl
 replace h0:DataW.trod enc Tryz.prog W base sp held n0 2 ((cs.drop 0).take (Tryz.prog.cellsOf 2))=some y0:=h0
 rw [cc_Int64] at h0
 replace h1:DataW.trod enc Tryz.prog W base sp held n1 2 ((cs.drop 1).take (Tryz.prog.cellsOf 2))=some y1:=h1
 rw [cc_Int64] at h1
 replace h2:DataW.trod enc Tryz.prog W base sp held n2 2 ((cs.drop 2).take (Tryz.prog.cellsOf 2))=some y2:=h2
 rw [cc_Int64] at h2
 replace h3:DataW.trod enc Tryz.prog W base sp held n3 28 ((cs.drop 3).take (Tryz.prog.cellsOf 28))=some y3:=h3
 rw [cc_MarkS] at h3
 have hend:cs.drop 4=[]:=List.drop_eq_nil_of_le oM
 have E:=((drop_split cs 0 1 1 rfl).trans (congrArg (fun z=>((cs.drop 0).take 1) ++ z) ((drop_split cs 1 1 2 rfl).trans (congrArg (fun z=>((cs.drop 1).take 1) ++ z) ((drop_split cs 2 1 3 rfl).trans (congrArg (fun z=>((cs.drop 2).take 1) ++ z) ((drop_split cs 3 1 4 rfl).trans (congrArg (fun z=>((cs.drop 3).take 1) ++ z) hend))))))))
 obtain⟨a0,e0,_⟩:=DataW.trod_int Tryz.underlying2 h0
 rw [e0] at E
 obtain⟨a1,e1,_⟩:=DataW.trod_int Tryz.underlying2 h1
 rw [e1] at E
 obtain⟨a2,e2,_⟩:=DataW.trod_int Tryz.underlying2 h2
 rw [e2] at E
 obtain⟨v3,a3,e3,r3⟩:=rl_MarkS h3
 rw [e3] at E
 exact⟨⟨a0,a1,a2,a3⟩,v3,congrArg (fun l:List Value=>Value.agg l.toArray) E,r3⟩
theorem rk_Book {fuel:Nat} {cs:List Value} {x:DataW H × List MemPlace} (h:DataW.trod enc Tryz.prog W base sp held fuel 33 cs=some x):∃ d:DBook,RdBook W (.agg cs.toArray) d:=by
 have hl:=rd_len Tryz.underlying33 h
 rw [cc_Book] at hl
 obtain⟨n0,y0,h0⟩:=rd_field Tryz.underlying33 h 0 _ rfl
 obtain⟨n1,y1,h1⟩:=rd_field Tryz.underlying33 h 1 _ rfl
 obtain⟨n2,y2,h2⟩:=rd_field Tryz.underlying33 h 2 _ rfl
 replace h0:DataW.trod enc Tryz.prog W base sp held n0 2 ((cs.drop 0).take (Tryz.prog.cellsOf 2))=some y0:=h0
 rw [cc_Int64] at h0
 replace h1:DataW.trod enc Tryz.prog W base sp held n1 2 ((cs.drop 1).take (Tryz.prog.cellsOf 2))=some y1:=h1
 rw [cc_Int64] at h1
 replace h2:DataW.trod enc Tryz.prog W base sp held n2 31 ((cs.drop 2).take (Tryz.prog.cellsOf 31))=some y2:=h2
 rw [cc_EntryS] at h2
 have hend:cs.drop 3=[]:=List.drop_eq_nil_of_le oM
 have E:=((drop_split cs 0 1 1 rfl).trans (congrArg (fun z=>((cs.drop 0).take 1) ++ z) ((drop_split cs 1 1 2 rfl).trans (congrArg (fun z=>((cs.drop 1).take 1) ++ z) ((drop_split cs 2 1 3 rfl).trans (congrArg (fun z=>((cs.drop 2).take 1) ++ z) hend))))))
 obtain⟨a0,e0,_⟩:=DataW.trod_int Tryz.underlying2 h0
 rw [e0] at E
 obtain⟨a1,e1,_⟩:=DataW.trod_int Tryz.underlying2 h1
 rw [e1] at E
 obtain⟨v2,a2,e2,r2⟩:=rl_EntryS h2
 rw [e2] at E
 exact⟨⟨a0,a1,a2⟩,v2,congrArg (fun l:List Value=>Value.agg l.toArray) E,r2⟩
theorem rk_LogNode {fuel:Nat} {cs:List Value} {x:DataW H × List MemPlace} (h:DataW.trod enc Tryz.prog W base sp held fuel 36 cs=some x):∃ d:DLogNode,RdLog W (.agg cs.toArray) d:=by
 have hl:=rd_len Tryz.underlying36 h
 rw [cc_LogNode] at hl
 obtain⟨n0,y0,h0⟩:=rd_field Tryz.underlying36 h 0 _ rfl
 obtain⟨n1,y1,h1⟩:=rd_field Tryz.underlying36 h 1 _ rfl
 obtain⟨n2,y2,h2⟩:=rd_field Tryz.underlying36 h 2 _ rfl
 obtain⟨n3,y3,h3⟩:=rd_field Tryz.underlying36 h 3 _ rfl
 obtain⟨n4,y4,h4⟩:=rd_field Tryz.underlying36 h 4 _ rfl
 obtain⟨n5,y5,h5⟩:=rd_field Tryz.underlying36 h 5 _ rfl
 obtain⟨n6,y6,h6⟩:=rd_field Tryz.underlying36 h 6 _ rfl
 obtain⟨n7,y7,h7⟩:=rd_field Tryz.underlying36 h 7 _ rfl
 replace h0:DataW.trod enc Tryz.prog W base sp held n0 27 ((cs.drop 0).take (Tryz.prog.cellsOf 27))=some y0:=h0
 rw [cc_Two] at h0
 replace h1:DataW.trod enc Tryz.prog W base sp held n1 30 ((cs.drop 4).take (Tryz.prog.cellsOf 30))=some y1:=h1
 rw [cc_Head] at h1
 replace h2:DataW.trod enc Tryz.prog W base sp held n2 30 ((cs.drop 8).take (Tryz.prog.cellsOf 30))=some y2:=h2
 rw [cc_Head] at h2
 replace h3:DataW.trod enc Tryz.prog W base sp held n3 4 ((cs.drop 12).take (Tryz.prog.cellsOf 4))=some y3:=h3
 rw [cc_Bool] at h3
 replace h4:DataW.trod enc Tryz.prog W base sp held n4 33 ((cs.drop 13).take (Tryz.prog.cellsOf 33))=some y4:=h4
 rw [cc_Book] at h4
 replace h5:DataW.trod enc Tryz.prog W base sp held n5 28 ((cs.drop 16).take (Tryz.prog.cellsOf 28))=some y5:=h5
 rw [cc_MarkS] at h5
 replace h6:DataW.trod enc Tryz.prog W base sp held n6 2 ((cs.drop 17).take (Tryz.prog.cellsOf 2))=some y6:=h6
 rw [cc_Int64] at h6
 replace h7:DataW.trod enc Tryz.prog W base sp held n7 34 ((cs.drop 18).take (Tryz.prog.cellsOf 34))=some y7:=h7
 rw [cc_AckS] at h7
 have hend:cs.drop 19=[]:=List.drop_eq_nil_of_le oM
 have E:=((drop_split cs 0 4 4 rfl).trans (congrArg (fun z=>((cs.drop 0).take 4) ++ z) ((drop_split cs 4 4 8 rfl).trans (congrArg (fun z=>((cs.drop 4).take 4) ++ z) ((drop_split cs 8 4 12 rfl).trans (congrArg (fun z=>((cs.drop 8).take 4) ++ z) ((drop_split cs 12 1 13 rfl).trans (congrArg (fun z=>((cs.drop 12).take 1) ++ z) ((drop_split cs 13 3 16 rfl).trans (congrArg (fun z=>((cs.drop 13).take 3) ++ z) ((drop_split cs 16 1 17 rfl).trans (congrArg (fun z=>((cs.drop 16).take 1) ++ z) ((drop_split cs 17 1 18 rfl).trans (congrArg (fun z=>((cs.drop 17).take 1) ++ z) ((drop_split cs 18 1 19 rfl).trans (congrArg (fun z=>((cs.drop 18).take 1) ++ z) hend))))))))))))))))
 obtain⟨a0,r0⟩:=rk_Two h0
 obtain⟨a1,r1⟩:=rk_Head h1
 obtain⟨a2,r2⟩:=rk_Head h2
 obtain⟨a3,e3,_⟩:=DataW.trod_bool Tryz.underlying4 h3
 rw [e3] at E
 obtain⟨a4,r4⟩:=rk_Book h4
 obtain⟨v5,a5,e5,r5⟩:=rl_MarkS h5
 rw [e5] at E
 obtain⟨a6,e6,_⟩:=DataW.trod_int Tryz.underlying2 h6
 rw [e6] at E
 obtain⟨v7,a7,e7,r7⟩:=rl_AckS h7
 rw [e7] at E
 exact⟨⟨a0,a1,a2,a3,a4,a5,a6,a7⟩,((cs.drop 0).take 4),((cs.drop 4).take 4),((cs.drop 8).take 4),((cs.drop 13).take 3),v5,v7,congrArg (fun l:List Value=>Value.agg l.toArray) E,(by simp [hl]),(by simp [hl]),(by simp [hl]),(by simp [hl]),r0,r1,r2,r4,r5,r7⟩
theorem rk_Client {fuel:Nat} {cs:List Value} {x:DataW H × List MemPlace} (h:DataW.trod enc Tryz.prog W base sp held fuel 57 cs=some x):∃ d:DClient,RdClient W (.agg cs.toArray) d:=by
 have hl:=rd_len Tryz.underlying57 h
 rw [cc_Client] at hl
 obtain⟨n0,y0,h0⟩:=rd_field Tryz.underlying57 h 0 _ rfl
 obtain⟨n1,y1,h1⟩:=rd_field Tryz.underlying57 h 1 _ rfl
 obtain⟨n2,y2,h2⟩:=rd_field Tryz.underlying57 h 2 _ rfl
 obtain⟨n3,y3,h3⟩:=rd_field Tryz.underlying57 h 3 _ rfl
 replace h0:DataW.trod enc Tryz.prog W base sp held n0 2 ((cs.drop 0).take (Tryz.prog.cellsOf 2))=some y0:=h0
 rw [cc_Int64] at h0
 replace h1:DataW.trod enc Tryz.prog W base sp held n1 54 ((cs.drop 1).take (Tryz.prog.cellsOf 54))=some y1:=h1
 rw [cc_WantS] at h1
 replace h2:DataW.trod enc Tryz.prog W base sp held n2 55 ((cs.drop 2).take (Tryz.prog.cellsOf 55))=some y2:=h2
 rw [cc_GotS] at h2
 replace h3:DataW.trod enc Tryz.prog W base sp held n3 2 ((cs.drop 3).take (Tryz.prog.cellsOf 2))=some y3:=h3
 rw [cc_Int64] at h3
 have hend:cs.drop 4=[]:=List.drop_eq_nil_of_le oM
 have E:=((drop_split cs 0 1 1 rfl).trans (congrArg (fun z=>((cs.drop 0).take 1) ++ z) ((drop_split cs 1 1 2 rfl).trans (congrArg (fun z=>((cs.drop 1).take 1) ++ z) ((drop_split cs 2 1 3 rfl).trans (congrArg (fun z=>((cs.drop 2).take 1) ++ z) ((drop_split cs 3 1 4 rfl).trans (congrArg (fun z=>((cs.drop 3).take 1) ++ z) hend))))))))
 obtain⟨a0,e0,_⟩:=DataW.trod_int Tryz.underlying2 h0
 rw [e0] at E
 obtain⟨v1,a1,e1,r1⟩:=rl_WantS h1
 rw [e1] at E
 obtain⟨v2,a2,e2,r2⟩:=rl_GotS h2
 rw [e2] at E
 obtain⟨a3,e3,_⟩:=DataW.trod_int Tryz.underlying2 h3
 rw [e3] at E
 exact⟨⟨a0,a1,a2,a3⟩,v1,v2,congrArg (fun l:List Value=>Value.agg l.toArray) E,r1,r2⟩
theorem rk_Net {fuel:Nat} {cs:List Value} {x:DataW H × List MemPlace} (h:DataW.trod enc Tryz.prog W base sp held fuel 61 cs=some x):∃ d:DNet,RdNet W (.agg cs.toArray) d:=by
 have hl:=rd_len Tryz.underlying61 h
 rw [cc_Net] at hl
 obtain⟨n0,y0,h0⟩:=rd_field Tryz.underlying61 h 0 _ rfl
 obtain⟨n1,y1,h1⟩:=rd_field Tryz.underlying61 h 1 _ rfl
 replace h0:DataW.trod enc Tryz.prog W base sp held n0 58 ((cs.drop 0).take (Tryz.prog.cellsOf 58))=some y0:=h0
 rw [cc_MsgS] at h0
 replace h1:DataW.trod enc Tryz.prog W base sp held n1 59 ((cs.drop 1).take (Tryz.prog.cellsOf 59))=some y1:=h1
 rw [cc_LinkS] at h1
 have hend:cs.drop 2=[]:=List.drop_eq_nil_of_le oM
 have E:=((drop_split cs 0 1 1 rfl).trans (congrArg (fun z=>((cs.drop 0).take 1) ++ z) ((drop_split cs 1 1 2 rfl).trans (congrArg (fun z=>((cs.drop 1).take 1) ++ z) hend))))
 obtain⟨v0,a0,e0,r0⟩:=rl_MsgS h0
 rw [e0] at E
 obtain⟨v1,a1,e1,r1⟩:=rl_LinkS h1
 rw [e1] at E
 exact⟨⟨a0,a1⟩,v0,v1,congrArg (fun l:List Value=>Value.agg l.toArray) E,r0,r1⟩
theorem rk_World {fuel:Nat} {cs:List Value} {x:DataW H × List MemPlace} (h:DataW.trod enc Tryz.prog W base sp held fuel 65 cs=some x):∃ d:DWorld,RdWorld W (.agg cs.toArray) d:=by
 have hl:=rd_len Tryz.underlying65 h
 rw [cc_World] at hl
 obtain⟨n0,y0,h0⟩:=rd_field Tryz.underlying65 h 0 _ rfl
 obtain⟨n1,y1,h1⟩:=rd_field Tryz.underlying65 h 1 _ rfl
 obtain⟨n2,y2,h2⟩:=rd_field Tryz.underlying65 h 2 _ rfl
 obtain⟨n3,y3,h3⟩:=rd_field Tryz.underlying65 h 3 _ rfl
 obtain⟨n4,y4,h4⟩:=rd_field Tryz.underlying65 h 4 _ rfl
 obtain⟨n5,y5,h5⟩:=rd_field Tryz.underlying65 h 5 _ rfl
 obtain⟨n6,y6,h6⟩:=rd_field Tryz.underlying65 h 6 _ rfl
 obtain⟨n7,y7,h7⟩:=rd_field Tryz.underlying65 h 7 _ rfl
 obtain⟨n8,y8,h8⟩:=rd_field Tryz.underlying65 h 8 _ rfl
 replace h0:DataW.trod enc Tryz.prog W base sp held n0 36 ((cs.drop 0).take (Tryz.prog.cellsOf 36))=some y0:=h0
 rw [cc_LogNode] at h0
 replace h1:DataW.trod enc Tryz.prog W base sp held n1 44 ((cs.drop 19).take (Tryz.prog.cellsOf 44))=some y1:=h1
 rw [cc_Store] at h1
 replace h2:DataW.trod enc Tryz.prog W base sp held n2 53 ((cs.drop 31).take (Tryz.prog.cellsOf 53))=some y2:=h2
 rw [cc_Sched] at h2
 replace h3:DataW.trod enc Tryz.prog W base sp held n3 53 ((cs.drop 46).take (Tryz.prog.cellsOf 53))=some y3:=h3
 rw [cc_Sched] at h3
 replace h4:DataW.trod enc Tryz.prog W base sp held n4 57 ((cs.drop 61).take (Tryz.prog.cellsOf 57))=some y4:=h4
 rw [cc_Client] at h4
 replace h5:DataW.trod enc Tryz.prog W base sp held n5 57 ((cs.drop 65).take (Tryz.prog.cellsOf 57))=some y5:=h5
 rw [cc_Client] at h5
 replace h6:DataW.trod enc Tryz.prog W base sp held n6 61 ((cs.drop 69).take (Tryz.prog.cellsOf 61))=some y6:=h6
 rw [cc_Net] at h6
 replace h7:DataW.trod enc Tryz.prog W base sp held n7 62 ((cs.drop 71).take (Tryz.prog.cellsOf 62))=some y7:=h7
 rw [cc_Int64S] at h7
 replace h8:DataW.trod enc Tryz.prog W base sp held n8 63 ((cs.drop 72).take (Tryz.prog.cellsOf 63))=some y8:=h8
 rw [cc_BoolS] at h8
 have hend:cs.drop 73=[]:=List.drop_eq_nil_of_le oM
 have E:=((drop_split cs 0 19 19 rfl).trans (congrArg (fun z=>((cs.drop 0).take 19) ++ z) ((drop_split cs 19 12 31 rfl).trans (congrArg (fun z=>((cs.drop 19).take 12) ++ z) ((drop_split cs 31 15 46 rfl).trans (congrArg (fun z=>((cs.drop 31).take 15) ++ z) ((drop_split cs 46 15 61 rfl).trans (congrArg (fun z=>((cs.drop 46).take 15) ++ z) ((drop_split cs 61 4 65 rfl).trans (congrArg (fun z=>((cs.drop 61).take 4) ++ z) ((drop_split cs 65 4 69 rfl).trans (congrArg (fun z=>((cs.drop 65).take 4) ++ z) ((drop_split cs 69 2 71 rfl).trans (congrArg (fun z=>((cs.drop 69).take 2) ++ z) ((drop_split cs 71 1 72 rfl).trans (congrArg (fun z=>((cs.drop 71).take 1) ++ z) ((drop_split cs 72 1 73 rfl).trans (congrArg (fun z=>((cs.drop 72).take 1) ++ z) hend))))))))))))))))))
 obtain⟨a0,r0⟩:=rk_LogNode h0
 obtain⟨a1,r1⟩:=rk_Store h1
 obtain⟨a2,r2⟩:=rk_Sched h2
 obtain⟨a3,r3⟩:=rk_Sched h3
 obtain⟨a4,r4⟩:=rk_Client h4
 obtain⟨a5,r5⟩:=rk_Client h5
 obtain⟨a6,r6⟩:=rk_Net h6
 obtain⟨v7,a7,e7,r7⟩:=rl_Int64S h7
 rw [e7] at E
 obtain⟨v8,a8,e8,r8⟩:=rl_BoolS h8
 rw [e8] at E
 exact⟨⟨a0,a1,a2,a3,a4,a5,a6,a7,a8⟩,((cs.drop 0).take 19),((cs.drop 19).take 12),((cs.drop 31).take 15),((cs.drop 46).take 15),((cs.drop 61).take 4),((cs.drop 65).take 4),((cs.drop 69).take 2),v7,v8,congrArg (fun l:List Value=>Value.agg l.toArray) E,(by simp [hl]),(by simp [hl]),(by simp [hl]),(by simp [hl]),(by simp [hl]),(by simp [hl]),(by simp [hl]),r0,r1,r2,r3,r4,r5,r6,r7,r8⟩
end
end Go.Proofs.YtkpmbocbbgocbaaGreat
