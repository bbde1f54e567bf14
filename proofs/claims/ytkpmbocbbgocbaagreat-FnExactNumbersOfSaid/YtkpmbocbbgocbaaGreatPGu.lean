/- KD Q2 Q3. -/
import Derived.Test.YtkpmbocbbgocbaaGreatPGe
set_option linter.unusedSimpArgs false
set_option linter.unusedVariables false
set_option maxHeartbeats 8000000
set_option maxRecDepth 100000
namespace Go.Proofs.YtkpmbocbbgocbaaGreat
open Go.RowKit Go.G8
def FT(w:World)(v:Value)(d:EI):Prop:=∃t0 t1:Value,v=.agg #[t0,t1]/\Ll 0 w t0 (Bd d.Kept)/\Ll 1 w t1 (Dq d.Wait)
def EL(B:Nat)(w:World)(v:Value)(d:EI)(F:List Nat):Prop:=∃t0 t1:Value,∃ss0 ss1:List Value,v=.agg #[t0,t1]/\Px B 62 2 0 w t0 (Bd d.Kept) ss0/\Px B 312 2 1 w t1 (Dq d.Wait) ss1/\(∀k,k ∈ Ep (t0::ss0)->k ∈ Ep (t1::ss1)->False)/\F=Ep (t0::ss0)++Ep (t1::ss1)
def UT(d:EI):Nat:=tot 0 (Bd d.Kept)+tot 1 (Dq d.Wait)
def RV(B:Nat)(w:World)(v:Value)(d:EI)(F:List Nat)(q:Int):Prop:=∃t0 t1:Value,∃ss0 ss1:List Value,v=.agg #[t0,t1]/\Px B 62 2 0 w t0 (FQ 0 q (Bd d.Kept)) ss0/\Px B 312 2 1 w t1 (FQ 1 (q+(tot 0 (Bd d.Kept):Nat)) (Dq d.Wait)) ss1/\F=Ep (t0::ss0)++Ep (t1::ss1)
section
variable {B B':Nat} {w w':World} {v:Value} {d d':EI} {F:List Nat} {q:Int}
theorem FT.shape(h:FT w v d):∃a0 n0 k0 a1 n1 k1,v=.agg #[.slice a0 n0 k0,.slice a1 n1 k1]:=by
 obtain⟨t0,t1,rfl,h0,h1⟩:=h
 obtain⟨a0,n0,k0,rfl⟩:=h0.shape
 obtain⟨a1,n1,k1,rfl⟩:=h1.shape
 exact⟨a0,n0,k0,a1,n1,k1,rfl⟩
theorem FT.ext(h:FT w v d)(x:Ext w w'):FT w' v d:=let ⟨t0,t1,e,h0,h1⟩:=h;⟨t0,t1,e,h0.ext x,h1.ext x⟩
theorem EL.rd(h:EL B w v d F):FT w v d:=let ⟨t0,t1,_,_,e,h0,h1,_,_⟩:=h;⟨t0,t1,e,h0.nest,h1.nest⟩
theorem EL.ext(h:EL B w v d F)(x:Ext w w'):EL B w' v d F:=let ⟨t0,t1,s0,s1,e,h0,h1,hd,hF⟩:=h;⟨t0,t1,s0,s1,e,h0.ext x,h1.ext x,hd,hF⟩
theorem EL.upd(h:EL B w v d F){fs:List Nat}(x:Upd w w' fs)(hn:∀k,k ∈ F->k ∈ fs->False):EL B w' v d F:=by
 obtain⟨t0,t1,s0,s1,e,h0,h1,hd,rfl⟩:=h
 exact⟨t0,t1,s0,s1,e,h0.upd x (fun k h=>hn k (List.mem_append_left _ h)),h1.upd x (fun k h=>hn k (List.mem_append_right _ h)),hd,rfl⟩
theorem EL.low(h:EL B w v d F):∀k,k ∈ F->B<=k/\k<w.heap.size:=by
 obtain⟨t0,t1,s0,s1,e,h0,h1,hd,rfl⟩:=h
 intro k hk
 rcases List.mem_append.1 hk with h|h
 .
  exact h0.foot k h
 exact h1.foot k h
theorem IJ.rd(h:IJ B w v d):FT w v d:=let ⟨t0,t1,_,_,e,h0,h1,_⟩:=h;⟨t0,t1,e,h0.nest,h1.nest⟩
theorem EL.is(h:EL B w v d F):IJ B w v d:=let ⟨t0,t1,s0,s1,e,h0,h1,hd,_⟩:=h;⟨t0,t1,s0,s1,e,h0,h1,hd⟩
theorem cE3(h:FT w v d){left:Int}(h0:0<=left)(h1:left<=1048576):Calls Tryz.prog 101 #[v,.int .i64 left] w (Ret w fun v' _=>SzR left (Mj (Bd d.Kept)+Mj (Dq d.Wait)) v'):=by
 obtain⟨t0,t1,rfl,g0,g1⟩:=h
 exact aN0 w t0 _ t1 _ left g0 g1 h0 h1
theorem RV.ext(h:RV B w v d F q)(x:Ext w w'):RV B w' v d F q:=let ⟨t0,t1,s0,s1,e,h0,h1,hF⟩:=h;⟨t0,t1,s0,s1,e,h0.ext x,h1.ext x,hF⟩
theorem aF2(h:EL B w v d F)(hq0:0<=q)(hq1:q+(UT d:Nat)<=4611686018427387904):Calls Tryz.prog 157 #[v,.int .i64 q] w (IX w F (.int .i64 (q+(UT d:Nat))) fun w'=>RV B w' v d F q):=by
 obtain⟨t0,t1,s0,s1,rfl,h0,h1,hd,rfl⟩:=h
 unfold UT at hq1 ⊢
 refine(ZS w B t0 _ s0 t1 _ s1 q h0 h1 hd hq0 oM).mono ?_
 rintro e w'⟨rfl,hx,g0,g1⟩
 exact⟨by rw[Int.natCast_add,Int.add_assoc],hx,t0,t1,s0,s1,rfl,g0,g1,rfl⟩
theorem bB1{u:Value}(h:FT w v d)(k:FT w u d):Calls Tryz.prog 145 #[v,u] w (Fz w (.bool true)):=by
 obtain⟨t0,t1,rfl,h0,h1⟩:=h
 obtain⟨u0,u1,rfl,k0,k1⟩:=k
 exact aN1 w t0 u0 _ t1 u1 _ h0 k0 h1 k1
end
theorem aF3(w:World)(s0:Value)(d0:List (List Int × List Int))(s1:Value)(d1:List (List Int × List Int))(h0:Ll 0 w s0 d0)(hs0:Mj d0<=1048576)(h1:Ll 1 w s1 d1)(hs1:Mj d1<=1048576):Calls Tryz.prog 124 #[.agg #[s0,s1]] w (Ret w fun v w'=>∃t0 t1:Value,v=.agg #[t0,t1]/\∃ss0 ss1:List Value,Px w.heap.size 62 2 0 w' t0 d0 ss0/\Px w.heap.size 312 2 1 w' t1 d1 ss1/\(∀k,k ∈ Ep (t0::ss0)->k ∈ Ep (t1::ss1)->False)):=by
 go_enter Tryz.func124,Tryz.ntmps124
 go_wp2_with (first|(go_at_call 228;refine(aM7 _ s0 d0 (h0.ext xT) hs0).mono ?_;rintro e w1 ⟨t0,rfl,hx1,ss0,g0⟩;have F0:=g0.foot;obtain⟨ta0,tn0,tc0,rfl⟩:=g0.nest.shape;have hz1:=hx1.size;obtain⟨hc1,hf1⟩:=hx1.cells;(repeat (first|simp only[World.size_alloc] at hz1 hc1 hf1 g0|simp only[World.size_setCell] at hz1 hc1 hf1 g0));have JJ:w.heap.size<w1.heap.size:=oM;have PP:w.heap.size+1<w1.heap.size:=oM;have aC9:w.heap.size+1+1<w1.heap.size:=oM)|(go_at_call 229;refine(aT7 _ s1 d1 (h1.ext xT) hs1).mono ?_;rintro e w2 ⟨t1,rfl,hx2,ss1,g1⟩;have F1:=g1.foot;obtain⟨ta1,tn1,tc1,rfl⟩:=g1.nest.shape;have hz2:=hx2.size;obtain⟨hc2,hf2⟩:=hx2.cells;(repeat (first|simp only[World.size_alloc] at hz2 hc2 hf2 g1|simp only[World.size_setCell] at hz2 hc2 hf2 g1));have VC:w.heap.size<w2.heap.size:=oM;have aD0:w.heap.size+1<w2.heap.size:=oM;have bZ4:w.heap.size+1+1<w2.heap.size:=oM))
 refine bodyPost_ret (v:=.agg #[.slice ta0 tn0 tc0,.slice ta1 tn1 tc1]) ?_ rfl ?_
 .
  simp[results,Tryz.results124,go_sem, *]
 refine⟨_,rfl,?_,_,_,rfl,ss0,ss1,(g0.keep ?_).mono ?_,(g1.keep ?_).mono ?_,?_⟩
 all_goals clear hc1 hf1 hc2 hf2
 .
  exact xT
 .
  exact cB5
 .
  omega
 .
  exact cB5
 .
  omega
 intro k h1 h2
 have h5:=F0 k h1;have h6:=F1 k h2
 simp only[World.size_setCell,World.size_alloc] at h5 h6
 omega
theorem cE4{w:World}{v:Value}{d:EI}(h:FT w v d)(hs0:Mj (Bd d.Kept)<=1048576)(hs1:Mj (Dq d.Wait)<=1048576):Calls Tryz.prog 124 #[v] w (Ret w fun v' w'=>∃F,EL w.heap.size w' v' d F):=by
 obtain⟨t0,t1,rfl,h0,h1⟩:=h
 refine(aF3 w t0 _ t1 _ h0 hs0 h1 hs1).mono ?_
 rintro e w'⟨_,rfl,hx,u0,u1,rfl,s0,s1,g0,g1,hd⟩
 exact⟨_,rfl,hx,_,u0,u1,s0,s1,rfl,g0,g1,hd,rfl⟩
theorem Px.far{B n X i:Nat}{e e1:TypeId}{w:World}{v:Value}{rows:List wK}{ss:List Value}(h:Px B e e1 n w v rows ss)(hX:X<B)(u:Value):Px B e e1 n (w.setCell ⟨X,i,none⟩ u) v rows ss:=h.keep ((Chg.refl B w).setLow hX u)
end Go.Proofs.YtkpmbocbbgocbaaGreat
