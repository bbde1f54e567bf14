/- KD Q2 Q3. -/
import Derived.Test.YtkpmbocbbgocbaaGreatGa
import Derived.Test.YtkpmbocbbgocbaaGreatGb
import Derived.Test.YtkpmbocbbgocbaaGreatGe
set_option linter.unusedSimpArgs false
set_option linter.unusedVariables false
set_option maxHeartbeats 8000000
set_option maxRecDepth 100000
namespace Go.Proofs.YtkpmbocbbgocbaaGreat
open Go.RowKit Go.G8
def RdDisk (w:World) (v:Value) (d:DDisk):Prop:=∃ t0 t1:Value,v=.agg #[t0,t1]∧Nest 0 w t0 (nestInt64S d.Kept)∧Nest 1 w t1 (nestWrite d.Wait)
def OwDisk (B:Nat) (w:World) (v:Value) (d:DDisk) (F:List Nat):Prop:=∃ t0 t1:Value,∃ ss0 ss1:List Value,v=.agg #[t0,t1]∧OwnNs B 62 2 0 w t0 (nestInt64S d.Kept) ss0∧OwnNs B 312 2 1 w t1 (nestWrite d.Wait) ss1∧(∀ k,k ∈ feet (t0 :: ss0)→k ∈ feet (t1 :: ss1)→False)∧F=feet (t0 :: ss0) ++ feet (t1 :: ss1)
def MkDisk (B:Nat) (w:World) (v:Value) (d:DDisk) (F:List Nat) (q:Int):Prop:=∃ t0 t1:Value,∃ ss0 ss1:List Value,v=.agg #[t0,t1]∧OwnNs B 62 2 0 w t0 (marks 0 q (nestInt64S d.Kept)) ss0∧OwnNs B 312 2 1 w t1 (marks 1 (q+(tot 0 (nestInt64S d.Kept):Nat)) (nestWrite d.Wait)) ss1∧F=feet (t0 :: ss0) ++ feet (t1 :: ss1)
section
variable {B B':Nat} {w w':World} {v:Value} {d d':DDisk} {F:List Nat} {q:Int}
theorem RdDisk.shape (h:RdDisk w v d):∃ a0 n0 k0 a1 n1 k1,v=.agg #[.slice a0 n0 k0,.slice a1 n1 k1]:=by
 obtain⟨t0,t1,rfl,h0,h1⟩:=h
 obtain⟨a0,n0,k0,rfl⟩:=h0.shape
 obtain⟨a1,n1,k1,rfl⟩:=h1.shape
 exact⟨a0,n0,k0,a1,n1,k1,rfl⟩
theorem RdDisk.ext (h:RdDisk w v d) (x:Ext w w'):RdDisk w' v d:=let ⟨t0,t1,e,h0,h1⟩:=h;⟨t0,t1,e,h0.ext x,h1.ext x⟩
theorem OwDisk.rd (h:OwDisk B w v d F):RdDisk w v d:=let ⟨t0,t1,_,_,e,h0,h1,_,_⟩:=h;⟨t0,t1,e,h0.nest,h1.nest⟩
theorem OwDisk.ext (h:OwDisk B w v d F) (x:Ext w w'):OwDisk B w' v d F:=let ⟨t0,t1,s0,s1,e,h0,h1,hd,hF⟩:=h;⟨t0,t1,s0,s1,e,h0.ext x,h1.ext x,hd,hF⟩
theorem OwDisk.upd (h:OwDisk B w v d F) {fs:List Nat} (x:Upd w w' fs) (hn:∀ k,k ∈ F→k ∈ fs→False):OwDisk B w' v d F:=by
 obtain⟨t0,t1,s0,s1,e,h0,h1,hd,rfl⟩:=h
 exact⟨t0,t1,s0,s1,e,h0.upd x (fun k h=>hn k (List.mem_append_left _ h)),h1.upd x (fun k h=>hn k (List.mem_append_right _ h)),hd,rfl⟩
theorem OwDisk.low (h:OwDisk B w v d F):∀ k,k ∈ F→B≤k∧k<w.heap.size:=by
 obtain⟨t0,t1,s0,s1,e,h0,h1,hd,rfl⟩:=h
 intro k hk
 rcases List.mem_append.1 hk with h|h
 ·
  exact h0.foot k h
 exact h1.foot k h
theorem IsDisk.rd (h:IsDisk B w v d):RdDisk w v d:=let ⟨t0,t1,_,_,e,h0,h1,_⟩:=h;⟨t0,t1,e,h0.nest,h1.nest⟩
theorem OwDisk.is (h:OwDisk B w v d F):IsDisk B w v d:=let ⟨t0,t1,s0,s1,e,h0,h1,hd,_⟩:=h;⟨t0,t1,s0,s1,e,h0,h1,hd⟩
theorem sz_Disk (h:RdDisk w v d) {left:Int} (h0:0≤left) (h1:left≤1048576) :
  Calls Tryz.prog 101 #[v,.int .i64 left] w (Ret w fun v' _=>SzR left (rowsSize (nestInt64S d.Kept)+rowsSize (nestWrite d.Wait)) v'):=by
 obtain⟨t0,t1,rfl,g0,g1⟩:=h
 exact szDisk_c w t0 _ t1 _ left g0 g1 h0 h1
theorem MkDisk.ext (h:MkDisk B w v d F q) (x:Ext w w'):MkDisk B w' v d F q:=let ⟨t0,t1,s0,s1,e,h0,h1,hF⟩:=h;⟨t0,t1,s0,s1,e,h0.ext x,h1.ext x,hF⟩
theorem eq_Disk {u:Value} (h:RdDisk w v d) (k:RdDisk w u d):Calls Tryz.prog 145 #[v,u] w (RetV w (.bool true)):=by
 obtain⟨t0,t1,rfl,h0,h1⟩:=h
 obtain⟨u0,u1,rfl,k0,k1⟩:=k
 exact eqDisk_c w t0 u0 _ t1 u1 _ h0 k0 h1 k1
end
theorem toDisk2_c (w:World) (s0:Value) (d0:List (List Int × List Int)) (s1:Value) (d1:List (List Int × List Int)) (h0:Nest 0 w s0 d0) (hs0:rowsSize d0≤1048576) (h1:Nest 1 w s1 d1) (hs1:rowsSize d1≤1048576) :
  Calls Tryz.prog 124 #[.agg #[s0,s1]] w (Ret w fun v w'=>∃ t0 t1:Value,v=.agg #[t0,t1]∧∃ ss0 ss1:List Value,OwnNs w.heap.size 62 2 0 w' t0 d0 ss0∧OwnNs w.heap.size 312 2 1 w' t1 d1 ss1∧(∀ k,k ∈ feet (t0 :: ss0)→k ∈ feet (t1 :: ss1)→False)):=by
 go_enter Tryz.func124,Tryz.ntmps124
 go_wp2_with (first|(go_at_call 228;refine (toInt64SS_c _ s0 d0 (h0.ext xT) hs0).mono ?_;rintro e w1 ⟨t0,rfl,hx1,ss0,g0⟩;have F0:=g0.foot;obtain⟨ta0,tn0,tc0,rfl⟩:=g0.nest.shape;have hz1:=hx1.size;obtain⟨hc1,hf1⟩:=hx1.cells;(repeat (first|simp only [World.size_alloc] at hz1 hc1 hf1 g0|simp only [World.size_setCell] at hz1 hc1 hf1 g0));have hy1_0:w.heap.size<w1.heap.size:=oM;have hy1_1:w.heap.size+1<w1.heap.size:=oM;have hy1_2:w.heap.size+1+1<w1.heap.size:=oM)|(go_at_call 229;refine (toWriteS_c _ s1 d1 (h1.ext xT) hs1).mono ?_;rintro e w2 ⟨t1,rfl,hx2,ss1,g1⟩;have F1:=g1.foot;obtain⟨ta1,tn1,tc1,rfl⟩:=g1.nest.shape;have hz2:=hx2.size;obtain⟨hc2,hf2⟩:=hx2.cells;(repeat (first|simp only [World.size_alloc] at hz2 hc2 hf2 g1|simp only [World.size_setCell] at hz2 hc2 hf2 g1));have hy2_0:w.heap.size<w2.heap.size:=oM;have hy2_1:w.heap.size+1<w2.heap.size:=oM;have hy2_2:w.heap.size+1+1<w2.heap.size:=oM))
 refine bodyPost_ret (v:=.agg #[.slice ta0 tn0 tc0,.slice ta1 tn1 tc1]) ?_ rfl ?_
 ·
  simp [results,Tryz.results124,go_sem, *]
 refine⟨_,rfl,?_,_,_,rfl,ss0,ss1,(g0.keep ?_).mono ?_,(g1.keep ?_).mono ?_,?_⟩
 all_goals clear hc1 hf1 hc2 hf2
 ·
  exact xT
 ·
  exact chgT
 ·
  omega
 ·
  exact chgT
 ·
  omega
 intro k h1 h2
 have h5:=F0 k h1;have h6:=F1 k h2
 simp only [World.size_setCell,World.size_alloc] at h5 h6
 omega
theorem to_Disk {w:World} {v:Value} {d:DDisk} (h:RdDisk w v d) (hs0:rowsSize (nestInt64S d.Kept)≤1048576) (hs1:rowsSize (nestWrite d.Wait)≤1048576) :
  Calls Tryz.prog 124 #[v] w (Ret w fun v' w'=>∃ F,OwDisk w.heap.size w' v' d F):=by
 obtain⟨t0,t1,rfl,h0,h1⟩:=h
 refine (toDisk2_c w t0 _ t1 _ h0 hs0 h1 hs1).mono ?_
 rintro e w' ⟨_,rfl,hx,u0,u1,rfl,s0,s1,g0,g1,hd⟩
 exact⟨_,rfl,hx,_,u0,u1,s0,s1,rfl,g0,g1,hd,rfl⟩
end Go.Proofs.YtkpmbocbbgocbaaGreat
namespace Go.G8
open Go.RowKit
theorem OwnNs.far {B n X i:Nat} {e e1:TypeId} {w:World} {v:Value} {rows:List NRow} {ss:List Value} (h:OwnNs B e e1 n w v rows ss) (hX:X<B) (u:Value):OwnNs B e e1 n (w.setCell ⟨X,i,none⟩ u) v rows ss:=h.keep ((Chg.refl B w).setLow hX u)
end Go.G8
