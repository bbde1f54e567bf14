/- Open Facts Open2 Open3. -/
import Derived.Test.YtkpmbocbbgocbaaGreatRows
import Derived.Test.YtkpmbocbbgocbaaGreatGa
import Derived.ProofKit
import Derived.OpenShut
import Derived.ChangeOld
import Derived.Deep.Slices
import Derived.JoinedOf
import Derived.Test.YtkpmbocbbgocbaaGreatGb
set_option linter.unusedSimpArgs false
set_option linter.unusedVariables false
set_option maxHeartbeats 8000000
set_option maxRecDepth 100000
namespace Go.Proofs.YtkpmbocbbgocbaaGreat
open Go.ChangeShapes Go.WideShapes Go.ChangeAt Go.RowKit Go.G8
theorem own:ownKnob Tryz.prog.godebug=none:=by kernel_rfl
theorem laidOut:laidOutB Tryz.prog=true:=by kernel_rfl
section
variable {H:Type} {enc:TypeId × Value→H} {W:World} {base:Nat} {sp:Nat→Bool} {held:Bool}
theorem rd_field {t:TypeId} {fs:Array Field} {fuel:Nat} {cs:List Value} {x:DataW H × List MemPlace} (ht:Tryz.prog.underlying t=some (.struct fs)) (h:DataW.trod enc Tryz.prog W base sp held fuel t cs=some x)
  (i:Nat) (f:Field) (hf:fs[i]?=some f):∃ n y,DataW.trod enc Tryz.prog W base sp held n f.type ((cs.drop f.offset).take (Tryz.prog.cellsOf f.type))=some y:=by
 obtain⟨xs,n,_,_,_,hl,hr⟩:=DataW.trod_struct ht h
 have h1:=hr i f hf
 have hi:i<xs.length:=by
  rw [hl]
  rcases Nat.lt_or_ge i fs.size with h'|h'
  ·
   exact h'
  rw [Array.getElem?_eq_none h'] at hf;cases hf
 rw [List.getElem?_eq_getElem hi] at h1
 exact⟨n,_,h1⟩
theorem rd_len {t:TypeId} {fs:Array Field} {fuel:Nat} {cs:List Value} {x:DataW H × List MemPlace} (ht:Tryz.prog.underlying t=some (.struct fs)) (h:DataW.trod enc Tryz.prog W base sp held fuel t cs=some x):cs.length=Tryz.prog.cellsOf t:=by
 obtain⟨xs,n,_,_,hl,_,_⟩:=DataW.trod_struct ht h
 exact hl
end
end Go.Proofs.YtkpmbocbbgocbaaGreat
namespace Go.Proofs.YtkpmbocbbgocbaaGreat.facts
theorem b2 {a b:Bool} (ha:a=true) (hb:b=true):(a && b)=true:=by rw [ha,hb];rfl
theorem k1:(laidOutB Tryz.checked.prog)=true:=by kernel_rfl
theorem k2:(mapsRowed Tryz.checked.prog)=true:=by kernel_rfl
theorem k6:((Tryz.checked.prog.stops == []))=true:=by kernel_rfl
theorem k8:((Tryz.checked.prog.stopKnobs == []))=true:=by kernel_rfl
theorem k22:((Rows.fnExactSameWorldRow.plainKeys == Tryz.checked.prog.plainKeys))=true:=by kernel_rfl
theorem k24:(Tryz.checked.prog.stopsHeard)=true:=by kernel_rfl
theorem k25:(Tryz.checked.prog.mayEnter)=true:=by kernel_rfl
theorem k26:((Rows.fnExactSameWorldRow.lifted == Tryz.checked.prog.liftsFinal))=true:=by kernel_rfl
theorem k27:((Tryz.checked.prog.make == some Rows.fnExactSameWorldRow.make))=true:=by kernel_rfl
end Go.Proofs.YtkpmbocbbgocbaaGreat.facts
namespace Go.Proofs.YtkpmbocbbgocbaaGreat
open Go.ChangeShapes Go.WideShapes Go.ChangeAt Go.RowKit Go.G8
theorem cc_Int64:Tryz.prog.cellsOf 2=1:=by kernel_rfl
theorem cc_Bool:Tryz.prog.cellsOf 4=1:=by kernel_rfl
theorem cc_Due:Tryz.prog.cellsOf 406=2:=by kernel_rfl
theorem cc_Pair:Tryz.prog.cellsOf 364=2:=by kernel_rfl
theorem cc_Job:Tryz.prog.cellsOf 368=5:=by kernel_rfl
theorem cc_Op:Tryz.prog.cellsOf 51=5:=by kernel_rfl
theorem cc_Lease:Tryz.prog.cellsOf 40=3:=by kernel_rfl
theorem cc_Entry:Tryz.prog.cellsOf 359=9:=by kernel_rfl
theorem cc_Ack:Tryz.prog.cellsOf 294=4:=by kernel_rfl
theorem cc_Int64S:Tryz.prog.cellsOf 62=1:=by kernel_rfl
theorem cc_DueS:Tryz.prog.cellsOf 45=1:=by kernel_rfl
theorem cc_PairS:Tryz.prog.cellsOf 37=1:=by kernel_rfl
theorem cc_JobS:Tryz.prog.cellsOf 38=1:=by kernel_rfl
theorem cc_EntryS:Tryz.prog.cellsOf 31=1:=by kernel_rfl
theorem cc_Jobs:Tryz.prog.cellsOf 47=6:=by kernel_rfl
theorem cc_View:Tryz.prog.cellsOf 49=6:=by kernel_rfl
theorem cc_Sched:Tryz.prog.cellsOf 53=15:=by kernel_rfl
theorem cc_State:Tryz.prog.cellsOf 42=7:=by kernel_rfl
section
variable {H:Type} {enc:TypeId × Value→H} {W:World} {base:Nat} {sp:Nat→Bool} {held:Bool}
theorem rl_Due {fuel:Nat} {cs:List Value} {x:DataW H × List MemPlace} (h:DataW.trod enc Tryz.prog W base sp held fuel 406 cs=some x):∃ (c0:Int) (c1:Int),cs=[.int .i64 c0,.int .i64 c1]:=by
 have hl:=rd_len Tryz.underlying406 h
 rw [cc_Due] at hl
 obtain⟨v0,v1,rfl⟩:∃ v0 v1,cs=[v0,v1]:=by match cs,hl with|[v0,v1],_=>exact⟨v0,v1,rfl⟩
 obtain⟨n0,y0,h0⟩:=rd_field Tryz.underlying406 h 0 _ rfl
 obtain⟨n1,y1,h1⟩:=rd_field Tryz.underlying406 h 1 _ rfl
 simp [cc_Int64] at h0 h1
 obtain⟨a0,e0,_⟩:=DataW.trod_int Tryz.underlying2 h0
 simp at e0
 subst e0
 obtain⟨a1,e1,_⟩:=DataW.trod_int Tryz.underlying2 h1
 simp at e1
 subst e1
 exact⟨a0,a1,rfl⟩
theorem rl_Pair {fuel:Nat} {cs:List Value} {x:DataW H × List MemPlace} (h:DataW.trod enc Tryz.prog W base sp held fuel 364 cs=some x):∃ (c0:Int) (c1:Int),cs=[.int .i64 c0,.int .i64 c1]:=by
 have hl:=rd_len Tryz.underlying364 h
 rw [cc_Pair] at hl
 obtain⟨v0,v1,rfl⟩:∃ v0 v1,cs=[v0,v1]:=by match cs,hl with|[v0,v1],_=>exact⟨v0,v1,rfl⟩
 obtain⟨n0,y0,h0⟩:=rd_field Tryz.underlying364 h 0 _ rfl
 obtain⟨n1,y1,h1⟩:=rd_field Tryz.underlying364 h 1 _ rfl
 simp [cc_Int64] at h0 h1
 obtain⟨a0,e0,_⟩:=DataW.trod_int Tryz.underlying2 h0
 simp at e0
 subst e0
 obtain⟨a1,e1,_⟩:=DataW.trod_int Tryz.underlying2 h1
 simp at e1
 subst e1
 exact⟨a0,a1,rfl⟩
theorem rl_Job {fuel:Nat} {cs:List Value} {x:DataW H × List MemPlace} (h:DataW.trod enc Tryz.prog W base sp held fuel 368 cs=some x):∃ (c0:Int) (c1:Int) (c2:Int) (c3:Int) (c4:Int),cs=[.int .i64 c0,.int .i64 c1,.int .i64 c2,.int .i64 c3,.int .i64 c4]:=by
 have hl:=rd_len Tryz.underlying368 h
 rw [cc_Job] at hl
 obtain⟨v0,v1,v2,v3,v4,rfl⟩:∃ v0 v1 v2 v3 v4,cs=[v0,v1,v2,v3,v4]:=by match cs,hl with|[v0,v1,v2,v3,v4],_=>exact⟨v0,v1,v2,v3,v4,rfl⟩
 obtain⟨n0,y0,h0⟩:=rd_field Tryz.underlying368 h 0 _ rfl
 obtain⟨n1,y1,h1⟩:=rd_field Tryz.underlying368 h 1 _ rfl
 obtain⟨n2,y2,h2⟩:=rd_field Tryz.underlying368 h 2 _ rfl
 obtain⟨n3,y3,h3⟩:=rd_field Tryz.underlying368 h 3 _ rfl
 obtain⟨n4,y4,h4⟩:=rd_field Tryz.underlying368 h 4 _ rfl
 simp [cc_Int64] at h0 h1 h2 h3 h4
 obtain⟨a0,e0,_⟩:=DataW.trod_int Tryz.underlying2 h0
 simp at e0
 subst e0
 obtain⟨a1,e1,_⟩:=DataW.trod_int Tryz.underlying2 h1
 simp at e1
 subst e1
 obtain⟨a2,e2,_⟩:=DataW.trod_int Tryz.underlying2 h2
 simp at e2
 subst e2
 obtain⟨a3,e3,_⟩:=DataW.trod_int Tryz.underlying2 h3
 simp at e3
 subst e3
 obtain⟨a4,e4,_⟩:=DataW.trod_int Tryz.underlying2 h4
 simp at e4
 subst e4
 exact⟨a0,a1,a2,a3,a4,rfl⟩
theorem rl_Op {fuel:Nat} {cs:List Value} {x:DataW H × List MemPlace} (h:DataW.trod enc Tryz.prog W base sp held fuel 51 cs=some x):∃ (c0:Int) (c1:Int) (c2:Int) (c3:Int) (c4:Int),cs=[.int .i64 c0,.int .i64 c1,.int .i64 c2,.int .i64 c3,.int .i64 c4]:=by
 have hl:=rd_len Tryz.underlying51 h
 rw [cc_Op] at hl
 obtain⟨v0,v1,v2,v3,v4,rfl⟩:∃ v0 v1 v2 v3 v4,cs=[v0,v1,v2,v3,v4]:=by match cs,hl with|[v0,v1,v2,v3,v4],_=>exact⟨v0,v1,v2,v3,v4,rfl⟩
 obtain⟨n0,y0,h0⟩:=rd_field Tryz.underlying51 h 0 _ rfl
 obtain⟨n1,y1,h1⟩:=rd_field Tryz.underlying51 h 1 _ rfl
 obtain⟨n2,y2,h2⟩:=rd_field Tryz.underlying51 h 2 _ rfl
 obtain⟨n3,y3,h3⟩:=rd_field Tryz.underlying51 h 3 _ rfl
 obtain⟨n4,y4,h4⟩:=rd_field Tryz.underlying51 h 4 _ rfl
 simp [cc_Int64] at h0 h1 h2 h3 h4
 obtain⟨a0,e0,_⟩:=DataW.trod_int Tryz.underlying2 h0
 simp at e0
 subst e0
 obtain⟨a1,e1,_⟩:=DataW.trod_int Tryz.underlying2 h1
 simp at e1
 subst e1
 obtain⟨a2,e2,_⟩:=DataW.trod_int Tryz.underlying2 h2
 simp at e2
 subst e2
 obtain⟨a3,e3,_⟩:=DataW.trod_int Tryz.underlying2 h3
 simp at e3
 subst e3
 obtain⟨a4,e4,_⟩:=DataW.trod_int Tryz.underlying2 h4
 simp at e4
 subst e4
 exact⟨a0,a1,a2,a3,a4,rfl⟩
theorem rl_Lease {fuel:Nat} {cs:List Value} {x:DataW H × List MemPlace} (h:DataW.trod enc Tryz.prog W base sp held fuel 40 cs=some x):∃ (c0:Int) (c1:Int) (c2:Int),cs=[.int .i64 c0,.int .i64 c1,.int .i64 c2]:=by
 have hl:=rd_len Tryz.underlying40 h
 rw [cc_Lease] at hl
 obtain⟨v0,v1,v2,rfl⟩:∃ v0 v1 v2,cs=[v0,v1,v2]:=by match cs,hl with|[v0,v1,v2],_=>exact⟨v0,v1,v2,rfl⟩
 obtain⟨n0,y0,h0⟩:=rd_field Tryz.underlying40 h 0 _ rfl
 obtain⟨n1,y1,h1⟩:=rd_field Tryz.underlying40 h 1 _ rfl
 obtain⟨n2,y2,h2⟩:=rd_field Tryz.underlying40 h 2 _ rfl
 simp [cc_Int64] at h0 h1 h2
 obtain⟨a0,e0,_⟩:=DataW.trod_int Tryz.underlying2 h0
 simp at e0
 subst e0
 obtain⟨a1,e1,_⟩:=DataW.trod_int Tryz.underlying2 h1
 simp at e1
 subst e1
 obtain⟨a2,e2,_⟩:=DataW.trod_int Tryz.underlying2 h2
 simp at e2
 subst e2
 exact⟨a0,a1,a2,rfl⟩
theorem rl_Entry {fuel:Nat} {cs:List Value} {x:DataW H × List MemPlace} (h:DataW.trod enc Tryz.prog W base sp held fuel 359 cs=some x):∃ (c0:Int) (c1:Int) (c2:Int) (c3:Int) (c4:Int) (c5:Int) (c6:Int) (c7:Int) (c8:Int),cs=[.int .i64 c0,.int .i64 c1,.int .i64 c2,.int .i64 c3,.int .i64 c4,.int .i64 c5,.int .i64 c6,.int .i64 c7,.int .i64 c8]:=by
 have hl:=rd_len Tryz.underlying359 h
 rw [cc_Entry] at hl
 obtain⟨v0,v1,v2,v3,v4,v5,v6,v7,v8,rfl⟩:∃ v0 v1 v2 v3 v4 v5 v6 v7 v8,cs=[v0,v1,v2,v3,v4,v5,v6,v7,v8]:=by match cs,hl with|[v0,v1,v2,v3,v4,v5,v6,v7,v8],_=>exact⟨v0,v1,v2,v3,v4,v5,v6,v7,v8,rfl⟩
 obtain⟨n0,y0,h0⟩:=rd_field Tryz.underlying359 h 0 _ rfl
 obtain⟨n1,y1,h1⟩:=rd_field Tryz.underlying359 h 1 _ rfl
 obtain⟨n2,y2,h2⟩:=rd_field Tryz.underlying359 h 2 _ rfl
 obtain⟨n3,y3,h3⟩:=rd_field Tryz.underlying359 h 3 _ rfl
 obtain⟨n4,y4,h4⟩:=rd_field Tryz.underlying359 h 4 _ rfl
 simp [cc_Int64,cc_Op] at h0 h1 h2 h3 h4
 obtain⟨a0,e0,_⟩:=DataW.trod_int Tryz.underlying2 h0
 simp at e0
 subst e0
 obtain⟨a1,e1,_⟩:=DataW.trod_int Tryz.underlying2 h1
 simp at e1
 subst e1
 obtain⟨a2,e2,_⟩:=DataW.trod_int Tryz.underlying2 h2
 simp at e2
 subst e2
 obtain⟨a3,e3,_⟩:=DataW.trod_int Tryz.underlying2 h3
 simp at e3
 subst e3
 obtain⟨z4c0,z4c1,z4c2,z4c3,z4c4,e4⟩:=rl_Op h4
 simp at e4
 obtain⟨e4_0,e4_1,e4_2,e4_3,e4_4⟩:=e4
 subst e4_0;subst e4_1;subst e4_2;subst e4_3;subst e4_4
 exact⟨a0,a1,a2,a3,_,_,_,_,_,rfl⟩
theorem rl_Ack {fuel:Nat} {cs:List Value} {x:DataW H × List MemPlace} (h:DataW.trod enc Tryz.prog W base sp held fuel 294 cs=some x):∃ (c0:Int) (c1:Int) (c2:Int) (c3:Int),cs=[.int .i64 c0,.int .i64 c1,.int .i64 c2,.int .i64 c3]:=by
 have hl:=rd_len Tryz.underlying294 h
 rw [cc_Ack] at hl
 obtain⟨v0,v1,v2,v3,rfl⟩:∃ v0 v1 v2 v3,cs=[v0,v1,v2,v3]:=by match cs,hl with|[v0,v1,v2,v3],_=>exact⟨v0,v1,v2,v3,rfl⟩
 obtain⟨n0,y0,h0⟩:=rd_field Tryz.underlying294 h 0 _ rfl
 obtain⟨n1,y1,h1⟩:=rd_field Tryz.underlying294 h 1 _ rfl
 obtain⟨n2,y2,h2⟩:=rd_field Tryz.underlying294 h 2 _ rfl
 obtain⟨n3,y3,h3⟩:=rd_field Tryz.underlying294 h 3 _ rfl
 simp [cc_Int64] at h0 h1 h2 h3
 obtain⟨a0,e0,_⟩:=DataW.trod_int Tryz.underlying2 h0
 simp at e0
 subst e0
 obtain⟨a1,e1,_⟩:=DataW.trod_int Tryz.underlying2 h1
 simp at e1
 subst e1
 obtain⟨a2,e2,_⟩:=DataW.trod_int Tryz.underlying2 h2
 simp at e2
 subst e2
 obtain⟨a3,e3,_⟩:=DataW.trod_int Tryz.underlying2 h3
 simp at e3
 subst e3
 exact⟨a0,a1,a2,a3,rfl⟩
theorem rl_Int64S {fuel:Nat} {cs:List Value} {x:DataW H × List MemPlace} (h:DataW.trod enc Tryz.prog W base sp held fuel 62 cs=some x):∃ (s:Value) (l:List Int),cs=[s]∧Ints 1 W s l:=by
 rcases Deep.open_slice Tryz.underlying62 h with ⟨rfl,_⟩|⟨a,len,cap,m,n,D,Pl,rfl,hb,hl,hm,hmm,_,hx⟩
 ·
  exact⟨_,[],rfl,Ints.nil 1 W⟩
 have hlm:len≤m:=by rw [hmm];split <;> omega
 obtain⟨l,_,hi⟩:=Ints.of_each (f:=fun x:Int=>[x]) (n:=1) (fun _=>rfl) dC (w:=W) (a:=a) hl hm (fun i hi=>by
  obtain⟨cs',hc,ht⟩:=hx i oM
  rw [cc_Int64] at hc
  obtain⟨d,rfl,_⟩:=DataW.trod_int Tryz.underlying2 ht
  obtain⟨_,_,hcell⟩:=World.cells?_some hc
  refine⟨d,fun j u hu=>?_⟩
  have hj:j<1:=by
   rcases Nat.lt_or_ge j 1 with h'|h'
   ·
    exact h'
   rw [List.getElem?_eq_none (by simpa using h')] at hu;cases hu
  rw [hcell j hj]
  obtain rfl:j=0:=by omega
  simp at hu
  simp [hu])
 rw [show l.flatMap (fun x:Int=>[x])=l by simp] at hi
 exact⟨_,l,rfl,hi⟩
theorem rl_DueS {fuel:Nat} {cs:List Value} {x:DataW H × List MemPlace} (h:DataW.trod enc Tryz.prog W base sp held fuel 45 cs=some x):∃ (s:Value) (l:List DDue),cs=[s]∧Ints 2 W s (dues l):=by
 rcases Deep.open_slice Tryz.underlying45 h with ⟨rfl,_⟩|⟨a,len,cap,m,n,D,Pl,rfl,hb,hl,hm,hmm,_,hx⟩
 ·
  exact⟨_,[],rfl,Ints.nil 2 W⟩
 have hlm:len≤m:=by rw [hmm];split <;> omega
 obtain⟨l,_,hi⟩:=Ints.of_each (f:=DDue.ints) (n:=2) (fun _=>rfl) dC (w:=W) (a:=a) hl hm (fun i hi=>by
  obtain⟨cs',hc,ht⟩:=hx i oM
  rw [cc_Due] at hc
  obtain⟨b0,b1,rfl⟩:=rl_Due ht
  obtain⟨_,_,hcell⟩:=World.cells?_some hc
  refine⟨⟨b0,b1⟩,fun j u hu=>?_⟩
  have hj:j<2:=by
   rcases Nat.lt_or_ge j 2 with h'|h'
   ·
    exact h'
   rw [List.getElem?_eq_none (by simpa [DDue.ints] using h')] at hu;cases hu
  rw [hcell j hj]
  match j,hj,hu with
  | 0,_,hu=>simpa [DDue.ints] using hu
  | 1,_,hu=>simpa [DDue.ints] using hu)
 exact⟨_,l,rfl,hi⟩
theorem rl_PairS {fuel:Nat} {cs:List Value} {x:DataW H × List MemPlace} (h:DataW.trod enc Tryz.prog W base sp held fuel 37 cs=some x):∃ (s:Value) (l:List DPair),cs=[s]∧Ints 2 W s (flPair l):=by
 rcases Deep.open_slice Tryz.underlying37 h with ⟨rfl,_⟩|⟨a,len,cap,m,n,D,Pl,rfl,hb,hl,hm,hmm,_,hx⟩
 ·
  exact⟨_,[],rfl,Ints.nil 2 W⟩
 have hlm:len≤m:=by rw [hmm];split <;> omega
 obtain⟨l,_,hi⟩:=Ints.of_each (f:=DPair.ints) (n:=2) (fun _=>rfl) dC (w:=W) (a:=a) hl hm (fun i hi=>by
  obtain⟨cs',hc,ht⟩:=hx i oM
  rw [cc_Pair] at hc
  obtain⟨b0,b1,rfl⟩:=rl_Pair ht
  obtain⟨_,_,hcell⟩:=World.cells?_some hc
  refine⟨⟨b0,b1⟩,fun j u hu=>?_⟩
  have hj:j<2:=by
   rcases Nat.lt_or_ge j 2 with h'|h'
   ·
    exact h'
   rw [List.getElem?_eq_none (by simpa [DPair.ints] using h')] at hu;cases hu
  rw [hcell j hj]
  match j,hj,hu with
  | 0,_,hu=>simpa [DPair.ints] using hu
  | 1,_,hu=>simpa [DPair.ints] using hu)
 exact⟨_,l,rfl,hi⟩
theorem rl_JobS {fuel:Nat} {cs:List Value} {x:DataW H × List MemPlace} (h:DataW.trod enc Tryz.prog W base sp held fuel 38 cs=some x):∃ (s:Value) (l:List DJob),cs=[s]∧Ints 5 W s (flJob l):=by
 rcases Deep.open_slice Tryz.underlying38 h with ⟨rfl,_⟩|⟨a,len,cap,m,n,D,Pl,rfl,hb,hl,hm,hmm,_,hx⟩
 ·
  exact⟨_,[],rfl,Ints.nil 5 W⟩
 have hlm:len≤m:=by rw [hmm];split <;> omega
 obtain⟨l,_,hi⟩:=Ints.of_each (f:=DJob.ints) (n:=5) (fun _=>rfl) dC (w:=W) (a:=a) hl hm (fun i hi=>by
  obtain⟨cs',hc,ht⟩:=hx i oM
  rw [cc_Job] at hc
  obtain⟨b0,b1,b2,b3,b4,rfl⟩:=rl_Job ht
  obtain⟨_,_,hcell⟩:=World.cells?_some hc
  refine⟨⟨b0,b1,b2,b3,b4⟩,fun j u hu=>?_⟩
  have hj:j<5:=by
   rcases Nat.lt_or_ge j 5 with h'|h'
   ·
    exact h'
   rw [List.getElem?_eq_none (by simpa [DJob.ints] using h')] at hu;cases hu
  rw [hcell j hj]
  match j,hj,hu with
  | 0,_,hu=>simpa [DJob.ints] using hu
  | 1,_,hu=>simpa [DJob.ints] using hu
  | 2,_,hu=>simpa [DJob.ints] using hu
  | 3,_,hu=>simpa [DJob.ints] using hu
  | 4,_,hu=>simpa [DJob.ints] using hu)
 exact⟨_,l,rfl,hi⟩
theorem rl_EntryS {fuel:Nat} {cs:List Value} {x:DataW H × List MemPlace} (h:DataW.trod enc Tryz.prog W base sp held fuel 31 cs=some x):∃ (s:Value) (l:List DEntry),cs=[s]∧Ints 9 W s (flEntry l):=by
 rcases Deep.open_slice Tryz.underlying31 h with ⟨rfl,_⟩|⟨a,len,cap,m,n,D,Pl,rfl,hb,hl,hm,hmm,_,hx⟩
 ·
  exact⟨_,[],rfl,Ints.nil 9 W⟩
 have hlm:len≤m:=by rw [hmm];split <;> omega
 obtain⟨l,_,hi⟩:=Ints.of_each (f:=DEntry.ints) (n:=9) (fun _=>rfl) dC (w:=W) (a:=a) hl hm (fun i hi=>by
  obtain⟨cs',hc,ht⟩:=hx i oM
  rw [cc_Entry] at hc
  obtain⟨b0,b1,b2,b3,b4,b5,b6,b7,b8,rfl⟩:=rl_Entry ht
  obtain⟨_,_,hcell⟩:=World.cells?_some hc
  refine⟨⟨b0,b1,b2,b3,⟨b4,b5,b6,b7,b8⟩⟩,fun j u hu=>?_⟩
  have hj:j<9:=by
   rcases Nat.lt_or_ge j 9 with h'|h'
   ·
    exact h'
   rw [List.getElem?_eq_none (by simpa [DEntry.ints] using h')] at hu;cases hu
  rw [hcell j hj]
  match j,hj,hu with
  | 0,_,hu=>simpa [DEntry.ints] using hu
  | 1,_,hu=>simpa [DEntry.ints] using hu
  | 2,_,hu=>simpa [DEntry.ints] using hu
  | 3,_,hu=>simpa [DEntry.ints] using hu
  | 4,_,hu=>simpa [DEntry.ints] using hu
  | 5,_,hu=>simpa [DEntry.ints] using hu
  | 6,_,hu=>simpa [DEntry.ints] using hu
  | 7,_,hu=>simpa [DEntry.ints] using hu
  | 8,_,hu=>simpa [DEntry.ints] using hu)
 exact⟨_,l,rfl,hi⟩
theorem rl_Jobs {fuel:Nat} {cs:List Value} {x:DataW H × List MemPlace} (h:DataW.trod enc Tryz.prog W base sp held fuel 47 cs=some x):∃ (c0:Int) (c1:Int) (c2:Int) (c3:Int) (c4:Int) (s5:Value) (l5:List DDue),cs=[.int .i64 c0,.int .i64 c1,.int .i64 c2,.int .i64 c3,.int .i64 c4,s5]∧Ints 2 W s5 (dues l5):=by
 have hl:=rd_len Tryz.underlying47 h
 rw [cc_Jobs] at hl
 obtain⟨v0,v1,v2,v3,v4,v5,rfl⟩:∃ v0 v1 v2 v3 v4 v5,cs=[v0,v1,v2,v3,v4,v5]:=by match cs,hl with|[v0,v1,v2,v3,v4,v5],_=>exact⟨v0,v1,v2,v3,v4,v5,rfl⟩
 obtain⟨n0,y0,h0⟩:=rd_field Tryz.underlying47 h 0 _ rfl
 obtain⟨n1,y1,h1⟩:=rd_field Tryz.underlying47 h 1 _ rfl
 obtain⟨n2,y2,h2⟩:=rd_field Tryz.underlying47 h 2 _ rfl
 obtain⟨n3,y3,h3⟩:=rd_field Tryz.underlying47 h 3 _ rfl
 obtain⟨n4,y4,h4⟩:=rd_field Tryz.underlying47 h 4 _ rfl
 obtain⟨n5,y5,h5⟩:=rd_field Tryz.underlying47 h 5 _ rfl
 simp [cc_DueS,cc_Int64] at h0 h1 h2 h3 h4 h5
 obtain⟨a0,e0,_⟩:=DataW.trod_int Tryz.underlying2 h0
 simp at e0
 subst e0
 obtain⟨a1,e1,_⟩:=DataW.trod_int Tryz.underlying2 h1
 simp at e1
 subst e1
 obtain⟨a2,e2,_⟩:=DataW.trod_int Tryz.underlying2 h2
 simp at e2
 subst e2
 obtain⟨a3,e3,_⟩:=DataW.trod_int Tryz.underlying2 h3
 simp at e3
 subst e3
 obtain⟨a4,e4,_⟩:=DataW.trod_int Tryz.underlying2 h4
 simp at e4
 subst e4
 obtain⟨a5,m5,e5,r5⟩:=rl_DueS h5
 simp at e5
 subst e5
 exact⟨a0,a1,a2,a3,a4,_,m5,rfl,r5⟩
theorem rl_View {fuel:Nat} {cs:List Value} {x:DataW H × List MemPlace} (h:DataW.trod enc Tryz.prog W base sp held fuel 49 cs=some x):∃ (c0:Int) (c1:Int) (c2:Int) (c3:Int) (c4:Int) (s5:Value) (l5:List DDue),cs=[.int .i64 c0,.int .i64 c1,.int .i64 c2,.int .i64 c3,.int .i64 c4,s5]∧Ints 2 W s5 (dues l5):=by
 have hl:=rd_len Tryz.underlying49 h
 rw [cc_View] at hl
 obtain⟨v0,v1,v2,v3,v4,v5,rfl⟩:∃ v0 v1 v2 v3 v4 v5,cs=[v0,v1,v2,v3,v4,v5]:=by match cs,hl with|[v0,v1,v2,v3,v4,v5],_=>exact⟨v0,v1,v2,v3,v4,v5,rfl⟩
 obtain⟨n0,y0,h0⟩:=rd_field Tryz.underlying49 h 0 _ rfl
 simp [cc_Jobs] at h0
 obtain⟨z0c0,z0c1,z0c2,z0c3,z0c4,z0s5,z0l5,e0,r0_0⟩:=rl_Jobs h0
 simp at e0
 obtain⟨e0_0,e0_1,e0_2,e0_3,e0_4,e0_5⟩:=e0
 subst e0_0;subst e0_1;subst e0_2;subst e0_3;subst e0_4;subst e0_5
 exact⟨_,_,_,_,_,_,z0l5,rfl,r0_0⟩
theorem rl_Sched {fuel:Nat} {cs:List Value} {x:DataW H × List MemPlace} (h:DataW.trod enc Tryz.prog W base sp held fuel 53 cs=some x):∃ (c0:Int) (c1:Int) (c2:Int) (c3:Int) (c4:Int) (c5:Int) (c6:Int) (s7:Value) (l7:List DDue) (c8:Bool) (c9:Int) (c10:Int) (c11:Int) (c12:Int) (c13:Int) (c14:Int),cs=[.int .i64 c0,.int .i64 c1,.int .i64 c2,.int .i64 c3,.int .i64 c4,.int .i64 c5,.int .i64 c6,s7,.bool c8,.int .i64 c9,.int .i64 c10,.int .i64 c11,.int .i64 c12,.int .i64 c13,.int .i64 c14]∧Ints 2 W s7 (dues l7):=by
 have hl:=rd_len Tryz.underlying53 h
 rw [cc_Sched] at hl
 obtain⟨v0,v1,v2,v3,v4,v5,v6,v7,v8,v9,v10,v11,v12,v13,v14,rfl⟩:∃ v0 v1 v2 v3 v4 v5 v6 v7 v8 v9 v10 v11 v12 v13 v14,cs=[v0,v1,v2,v3,v4,v5,v6,v7,v8,v9,v10,v11,v12,v13,v14]:=by match cs,hl with|[v0,v1,v2,v3,v4,v5,v6,v7,v8,v9,v10,v11,v12,v13,v14],_=>exact⟨v0,v1,v2,v3,v4,v5,v6,v7,v8,v9,v10,v11,v12,v13,v14,rfl⟩
 obtain⟨n0,y0,h0⟩:=rd_field Tryz.underlying53 h 0 _ rfl
 obtain⟨n1,y1,h1⟩:=rd_field Tryz.underlying53 h 1 _ rfl
 obtain⟨n2,y2,h2⟩:=rd_field Tryz.underlying53 h 2 _ rfl
 obtain⟨n3,y3,h3⟩:=rd_field Tryz.underlying53 h 3 _ rfl
 obtain⟨n4,y4,h4⟩:=rd_field Tryz.underlying53 h 4 _ rfl
 obtain⟨n5,y5,h5⟩:=rd_field Tryz.underlying53 h 5 _ rfl
 simp [cc_Bool,cc_Int64,cc_Op,cc_View] at h0 h1 h2 h3 h4 h5
 obtain⟨a0,e0,_⟩:=DataW.trod_int Tryz.underlying2 h0
 simp at e0
 subst e0
 obtain⟨a1,e1,_⟩:=DataW.trod_int Tryz.underlying2 h1
 simp at e1
 subst e1
 obtain⟨z2c0,z2c1,z2c2,z2c3,z2c4,z2s5,z2l5,e2,r2_0⟩:=rl_View h2
 simp at e2
 obtain⟨e2_0,e2_1,e2_2,e2_3,e2_4,e2_5⟩:=e2
 subst e2_0;subst e2_1;subst e2_2;subst e2_3;subst e2_4;subst e2_5
 obtain⟨a8,e8,_⟩:=DataW.trod_bool Tryz.underlying4 h3
 simp at e8
 subst e8
 obtain⟨z4c0,z4c1,z4c2,z4c3,z4c4,e9⟩:=rl_Op h4
 simp at e9
 obtain⟨e9_0,e9_1,e9_2,e9_3,e9_4⟩:=e9
 subst e9_0;subst e9_1;subst e9_2;subst e9_3;subst e9_4
 obtain⟨a14,e14,_⟩:=DataW.trod_int Tryz.underlying2 h5
 simp at e14
 subst e14
 exact⟨a0,a1,_,_,_,_,_,_,z2l5,a8,_,_,_,_,_,a14,rfl,r2_0⟩
theorem rl_State {fuel:Nat} {cs:List Value} {x:DataW H × List MemPlace} (h:DataW.trod enc Tryz.prog W base sp held fuel 42 cs=some x):∃ (c0:Int) (c1:Int) (s2:Value) (l2:List DPair) (s3:Value) (l3:List DJob) (c4:Int) (c5:Int) (c6:Int),cs=[.int .i64 c0,.int .i64 c1,s2,s3,.int .i64 c4,.int .i64 c5,.int .i64 c6]∧Ints 2 W s2 (flPair l2)∧Ints 5 W s3 (flJob l3):=by
 have hl:=rd_len Tryz.underlying42 h
 rw [cc_State] at hl
 obtain⟨v0,v1,v2,v3,v4,v5,v6,rfl⟩:∃ v0 v1 v2 v3 v4 v5 v6,cs=[v0,v1,v2,v3,v4,v5,v6]:=by match cs,hl with|[v0,v1,v2,v3,v4,v5,v6],_=>exact⟨v0,v1,v2,v3,v4,v5,v6,rfl⟩
 obtain⟨n0,y0,h0⟩:=rd_field Tryz.underlying42 h 0 _ rfl
 obtain⟨n1,y1,h1⟩:=rd_field Tryz.underlying42 h 1 _ rfl
 obtain⟨n2,y2,h2⟩:=rd_field Tryz.underlying42 h 2 _ rfl
 obtain⟨n3,y3,h3⟩:=rd_field Tryz.underlying42 h 3 _ rfl
 obtain⟨n4,y4,h4⟩:=rd_field Tryz.underlying42 h 4 _ rfl
 simp [cc_Int64,cc_JobS,cc_Lease,cc_PairS] at h0 h1 h2 h3 h4
 obtain⟨a0,e0,_⟩:=DataW.trod_int Tryz.underlying2 h0
 simp at e0
 subst e0
 obtain⟨a1,e1,_⟩:=DataW.trod_int Tryz.underlying2 h1
 simp at e1
 subst e1
 obtain⟨a2,m2,e2,r2⟩:=rl_PairS h2
 simp at e2
 subst e2
 obtain⟨a3,m3,e3,r3⟩:=rl_JobS h3
 simp at e3
 subst e3
 obtain⟨z4c0,z4c1,z4c2,e4⟩:=rl_Lease h4
 simp at e4
 obtain⟨e4_0,e4_1,e4_2⟩:=e4
 subst e4_0;subst e4_1;subst e4_2
 exact⟨a0,a1,_,m2,_,m3,_,_,_,rfl,r2,r3⟩
end
end Go.Proofs.YtkpmbocbbgocbaaGreat
namespace Go.G8
open Go.RowKit
theorem List.map_prod_left_eq_zip' {α:Type} (l:List (α × Value)) (f:α→NRow):l.flatMap (fun d=>ncell (f d.1,d.2))=((l.map (f ∘ fun x=>x.1)).zip (l.map (·.2))).flatMap ncell:=by
 induction l with
 | nil=>rfl
 | cons x l ih=>simp only [List.flatMap_cons,List.map_cons,List.zip_cons_cons,ih,Function.comp]
theorem Sl.of_each {α:Type} {f:α→List Value} {n:Nat} (hn:0<n) {w:World} {a:Addr} {len cap:Nat} (hl:len≤cap) (hm:cap≤maxLen) (l:List α) (hlen:l.length=len) (hf:∀ x ∈ l,(f x).length=n)
  (hp:∀ (i:Nat) (d:α),l[i]?=some d→∀ j u,(f d)[j]?=some u→w.cell? ((a.add (i * n)).add j)=some u):Sl n w (.slice (some a) len cap) (l.flatMap f):=by
 refine⟨some a,len,cap,rfl,by rw [flatV_len f l hf,hlen],hl,hm,(fun h=>by cases h),fun b off sp ha hpos=>?_⟩
 injection ha with ha
 subst ha
 have hd:0<l.length:=by omega
 have hsp:sp=none:=by
  have hm0:(f l[0])[0]?=some ((f l[0])[0]'(by rw [hf _ (List.getElem_mem hd)];exact hn)):=List.getElem?_eq_getElem _
  have h1:=hp 0 _ (List.getElem?_eq_getElem hd) 0 _ hm0
  have e0:((⟨b,off,sp⟩:Addr).add (0 * n)).add 0=⟨b,off,sp⟩:=by unfold Addr.add;simp
  rw [e0] at h1
  cases sp with
  | none=>rfl
  | some s=>unfold World.cell? at h1;split at h1 <;> simp at h1
 subst hsp
 have hcell:∀ i u,(l.flatMap f)[i]?=some u→w.cell? ⟨b,off+i,none⟩=some u:=by
  intro i u hu
  have hi:i<l.length * n:=by
   rw [← flatV_len f l hf]
   exact (List.getElem?_eq_some_iff.1 hu).1
  have hd:i / n<l.length:=Nat.div_lt_of_lt_mul (by rw [Nat.mul_comm];exact hi)
  have hmod:i % n<n:=Nat.mod_lt _ hn
  have he:i / n * n+i % n=i:=by rw [Nat.mul_comm];exact Nat.div_add_mod i n
  have hg:=flatV_get f l hf (i / n) (i % n) l[i / n] (List.getElem?_eq_getElem hd) hmod
  rw [he,hu] at hg
  have:=hp (i / n) _ (List.getElem?_eq_getElem hd) (i % n) u hg.symm
  rw [add_lit0,add_lit0,Nat.add_assoc,he] at this
  exact this
 have h0:0<(l.flatMap f).length:=by rw [flatV_len f l hf];exact Nat.mul_pos hd hn
 exact⟨rfl,World.block_lt_of_cell? w _ (hcell 0 _ (List.getElem?_eq_getElem h0)),hcell⟩
theorem Nest.of_each {α:Type} {f:α→NRow} {n:Nat} (hf:∀ x,(f x).1.length=n) {w:World} {a:Addr} {len cap:Nat} (hl:len≤cap) (hm:cap≤maxLen)
  (h:∀ i,i<len→∃ (d:α) (s:Value),(∀ j u,(ncell (f d,s))[j]?=some u→w.cell? ((a.add (i * (n+1))).add j)=some u)∧Ints 1 w s (f d).2):∃ l:List α,l.length=len∧Nest n w (.slice (some a) len cap) (l.map f):=by
 obtain⟨l,hlen,hp⟩:=choose_list (α:=α × Value) (p:=fun i d=>(∀ j u,(ncell (f d.1,d.2))[j]?=some u→w.cell? ((a.add (i * (n+1))).add j)=some u)∧Ints 1 w d.2 (f d.1).2) len (fun i hi=>by
  obtain⟨d,s,h1⟩:=h i hi
  exact⟨(d,s),h1⟩)
 refine⟨l.map (·.1),by simp [hlen],?_,l.map (·.2),by simp,?_,fun i s r h1 h2=>?_⟩
 ·
  intro r hr
  simp only [List.mem_map] at hr
  obtain⟨x,⟨y,_,rfl⟩,rfl⟩:=hr
  exact hf _
 ·
  have e:ncells ((l.map (·.1)).map f) (l.map (·.2))=l.flatMap (fun d=>ncell (f d.1,d.2)):=by
   unfold ncells
   rw [List.map_map,← List.map_prod_left_eq_zip' l f]
  rw [e]
  exact Sl.of_each oM hl hm l hlen (fun x _=>by simp [ncell,hf]) (fun i d hd=>(hp i d hd).1)
 simp only [List.getElem?_map,Option.map_eq_some_iff] at h1 h2
 obtain⟨x,hx,rfl⟩:=h1
 obtain⟨y,⟨z,hz,rfl⟩,rfl⟩:=h2
 rw [hx] at hz;injection hz with hz;subst hz
 exact (hp i x hx).2
end Go.G8
namespace Go.Proofs.YtkpmbocbbgocbaaGreat
open Go.ChangeShapes Go.WideShapes Go.ChangeAt Go.RowKit Go.G8
theorem cc_Int64SS:Tryz.prog.cellsOf 22=1:=by kernel_rfl
theorem cc_WriteS:Tryz.prog.cellsOf 23=1:=by kernel_rfl
theorem cc_Write:Tryz.prog.cellsOf 345=2:=by kernel_rfl
theorem cc_Disk:Tryz.prog.cellsOf 25=2:=by kernel_rfl
theorem cc_Store:Tryz.prog.cellsOf 44=12:=by kernel_rfl
section
variable {H:Type} {enc:TypeId × Value→H} {W:World} {base:Nat} {sp:Nat→Bool} {held:Bool}
theorem rl_Write {fuel:Nat} {cs:List Value} {x:DataW H × List MemPlace} (h:DataW.trod enc Tryz.prog W base sp held fuel 345 cs=some x):∃ (c0:Int) (s1:Value) (l1:List Int),cs=[.int .i64 c0,s1]∧Ints 1 W s1 l1:=by
 have hl:=rd_len Tryz.underlying345 h
 rw [cc_Write] at hl
 obtain⟨v0,v1,rfl⟩:∃ v0 v1,cs=[v0,v1]:=by match cs,hl with|[v0,v1],_=>exact⟨v0,v1,rfl⟩
 obtain⟨n0,y0,h0⟩:=rd_field Tryz.underlying345 h 0 _ rfl
 obtain⟨n1,y1,h1⟩:=rd_field Tryz.underlying345 h 1 _ rfl
 simp [cc_Int64,cc_Int64S] at h0 h1
 obtain⟨a0,e0,_⟩:=DataW.trod_int Tryz.underlying2 h0
 simp at e0
 subst e0
 obtain⟨a1,m1,e1,r1⟩:=rl_Int64S h1
 simp at e1
 subst e1
 exact⟨a0,_,m1,rfl,r1⟩
theorem rl_Int64SS {fuel:Nat} {cs:List Value} {x:DataW H × List MemPlace} (h:DataW.trod enc Tryz.prog W base sp held fuel 22 cs=some x):∃ (s:Value) (l:List (List Int)),cs=[s]∧Nest 0 W s (nestInt64S l):=by
 rcases Deep.open_slice Tryz.underlying22 h with ⟨rfl,_⟩|⟨a,len,cap,m,n,D,Pl,rfl,hb,hl,hm,hmm,_,hx⟩
 ·
  exact⟨_,[],rfl,Nest.nil 0 W⟩
 have hlm:len≤m:=by rw [hmm];split <;> omega
 obtain⟨l,_,hi⟩:=Nest.of_each (f:=fun r:List Int=>(([],r):NRow)) (n:=0) (fun _=>rfl) (w:=W) (a:=a) hl hm (fun i hi=>by
  obtain⟨cs',hc,ht⟩:=hx i oM
  rw [cc_Int64S] at hc
  obtain⟨s,d,rfl,hd⟩:=rl_Int64S ht
  obtain⟨_,_,hcell⟩:=World.cells?_some hc
  refine⟨d,s,fun j u hu=>?_,hd⟩
  have hj:j<1:=by simpa [ncell] using (List.getElem?_eq_some_iff.1 hu).1
  rw [hcell j hj]
  obtain rfl:j=0:=by omega
  simpa [ncell] using hu)
 exact⟨_,l,rfl,hi⟩
theorem rl_WriteS {fuel:Nat} {cs:List Value} {x:DataW H × List MemPlace} (h:DataW.trod enc Tryz.prog W base sp held fuel 23 cs=some x):∃ (s:Value) (l:List DWrite),cs=[s]∧Nest 1 W s (nestWrite l):=by
 rcases Deep.open_slice Tryz.underlying23 h with ⟨rfl,_⟩|⟨a,len,cap,m,n,D,Pl,rfl,hb,hl,hm,hmm,_,hx⟩
 ·
  exact⟨_,[],rfl,Nest.nil 1 W⟩
 have hlm:len≤m:=by rw [hmm];split <;> omega
 obtain⟨l,_,hi⟩:=Nest.of_each (f:=fun d:DWrite=>(([d.At],d.Row):NRow)) (n:=1) (fun _=>rfl) (w:=W) (a:=a) hl hm (fun i hi=>by
  obtain⟨cs',hc,ht⟩:=hx i oM
  rw [cc_Write] at hc
  obtain⟨c0,s,d,rfl,hd⟩:=rl_Write ht
  obtain⟨_,_,hcell⟩:=World.cells?_some hc
  refine⟨⟨c0,d⟩,s,fun j u hu=>?_,hd⟩
  have hj:j<2:=by simpa [ncell] using (List.getElem?_eq_some_iff.1 hu).1
  rw [hcell j hj]
  match j,hj,hu with
  | 0,_,hu=>simpa [ncell] using hu
  | 1,_,hu=>simpa [ncell] using hu)
 exact⟨_,l,rfl,hi⟩
theorem rl_Disk {fuel:Nat} {cs:List Value} {x:DataW H × List MemPlace} (h:DataW.trod enc Tryz.prog W base sp held fuel 25 cs=some x):∃ (s0:Value) (l0:List (List Int)) (s1:Value) (l1:List DWrite),cs=[s0,s1]∧Nest 0 W s0 (nestInt64S l0)∧Nest 1 W s1 (nestWrite l1):=by
 have hl:=rd_len Tryz.underlying25 h
 rw [cc_Disk] at hl
 obtain⟨v0,v1,rfl⟩:∃ v0 v1,cs=[v0,v1]:=by match cs,hl with|[v0,v1],_=>exact⟨v0,v1,rfl⟩
 obtain⟨n0,y0,h0⟩:=rd_field Tryz.underlying25 h 0 _ rfl
 obtain⟨n1,y1,h1⟩:=rd_field Tryz.underlying25 h 1 _ rfl
 simp [cc_Int64SS,cc_WriteS] at h0 h1
 obtain⟨a0,m0,e0,r0⟩:=rl_Int64SS h0
 simp at e0
 subst e0
 obtain⟨a1,m1,e1,r1⟩:=rl_WriteS h1
 simp at e1
 subst e1
 exact⟨_,m0,_,m1,rfl,r0,r1⟩
theorem rl_Store {fuel:Nat} {cs:List Value} {x:DataW H × List MemPlace} (h:DataW.trod enc Tryz.prog W base sp held fuel 44 cs=some x):∃ (s0:Value) (l0:List (List Int)) (s1:Value) (l1:List DWrite) (c2:Int) (c3:Int) (s4:Value) (l4:List DPair) (s5:Value) (l5:List DJob) (c6:Int) (c7:Int) (c8:Int) (c9:Int) (c10:Int) (c11:Int),cs=[s0,s1,.int .i64 c2,.int .i64 c3,s4,s5,.int .i64 c6,.int .i64 c7,.int .i64 c8,.int .i64 c9,.int .i64 c10,.int .i64 c11]∧Nest 0 W s0 (nestInt64S l0)∧Nest 1 W s1 (nestWrite l1)∧Ints 2 W s4 (flPair l4)∧Ints 5 W s5 (flJob l5):=by
 have hl:=rd_len Tryz.underlying44 h
 rw [cc_Store] at hl
 obtain⟨v0,v1,v2,v3,v4,v5,v6,v7,v8,v9,v10,v11,rfl⟩:∃ v0 v1 v2 v3 v4 v5 v6 v7 v8 v9 v10 v11,cs=[v0,v1,v2,v3,v4,v5,v6,v7,v8,v9,v10,v11]:=by match cs,hl with|[v0,v1,v2,v3,v4,v5,v6,v7,v8,v9,v10,v11],_=>exact⟨v0,v1,v2,v3,v4,v5,v6,v7,v8,v9,v10,v11,rfl⟩
 obtain⟨n0,y0,h0⟩:=rd_field Tryz.underlying44 h 0 _ rfl
 obtain⟨n1,y1,h1⟩:=rd_field Tryz.underlying44 h 1 _ rfl
 obtain⟨n2,y2,h2⟩:=rd_field Tryz.underlying44 h 2 _ rfl
 obtain⟨n3,y3,h3⟩:=rd_field Tryz.underlying44 h 3 _ rfl
 obtain⟨n4,y4,h4⟩:=rd_field Tryz.underlying44 h 4 _ rfl
 simp [cc_Disk,cc_Int64,cc_State] at h0 h1 h2 h3 h4
 obtain⟨z0s0,z0l0,z0s1,z0l1,e0,r0_0,r0_1⟩:=rl_Disk h0
 simp at e0
 obtain⟨e0_0,e0_1⟩:=e0
 subst e0_0;subst e0_1
 obtain⟨z1c0,z1c1,z1s2,z1l2,z1s3,z1l3,z1c4,z1c5,z1c6,e2,r1_0,r1_1⟩:=rl_State h1
 simp at e2
 obtain⟨e2_0,e2_1,e2_2,e2_3,e2_4,e2_5,e2_6⟩:=e2
 subst e2_0;subst e2_1;subst e2_2;subst e2_3;subst e2_4;subst e2_5;subst e2_6
 obtain⟨a9,e9,_⟩:=DataW.trod_int Tryz.underlying2 h2
 simp at e9
 subst e9
 obtain⟨a10,e10,_⟩:=DataW.trod_int Tryz.underlying2 h3
 simp at e10
 subst e10
 obtain⟨a11,e11,_⟩:=DataW.trod_int Tryz.underlying2 h4
 simp at e11
 subst e11
 exact⟨_,z0l0,_,z0l1,_,_,_,z1l2,_,z1l3,_,_,_,a9,a10,a11,rfl,r0_0,r0_1,r1_0,r1_1⟩
end
end Go.Proofs.YtkpmbocbbgocbaaGreat
