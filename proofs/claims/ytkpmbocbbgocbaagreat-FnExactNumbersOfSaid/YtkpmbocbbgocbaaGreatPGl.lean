/- HelpH Q9 S5 KS P7 Q10. -/
import Derived.Test.YtkpmbocbbgocbaaGreatPGi
import Derived.Test.YtkpmbocbbgocbaaGreatPGv
set_option linter.unusedSimpArgs false
set_option linter.unusedVariables false
set_option maxHeartbeats 8000000
set_option maxRecDepth 100000
namespace Go.Proofs.YtkpmbocbbgocbaaGreat
open Go.RowKit Go.G8
theorem bH1(w:World)(s0:Value)(d0:List (List Int × List Int))(s1:Value)(d1:List (List Int × List Int))(c2:Int)(c3:Int)(s4:Value)(d4:List Int)(L4:Nat)(hL4:d4.length=L4*2)(s5:Value)(d5:List Int)(L5:Nat)(hL5:d5.length=L5*5)(c6:Int)(c7:Int)(c8:Int)(c9:Int)(c10:Int)(c11:Int)(left:Int)(h0:Ll 0 w s0 d0)(h1:Ll 1 w s1 d1)(h4:Aw 2 w s4 d4)(h5:Aw 5 w s5 d5)(hb0:0<=left)(hb1:left<=1048576):Calls Tryz.prog 34 #[.agg #[s0,s1,.int .i64 c2,.int .i64 c3,s4,s5,.int .i64 c6,.int .i64 c7,.int .i64 c8,.int .i64 c9,.int .i64 c10,.int .i64 c11],.int .i64 left] w (Ret w fun v' _=>SzR left (Mj d0+Mj d1+L4+L5) v'):=by
 go_enter Tryz.func34,Tryz.ntmps34
 go_wp2_with (first|(go_at_call 101;refine(aN0 _ s0 d0 s1 d1 _ (h0.ext xT) (h1.ext xT) oM oM).mono ?_;rintro e w1 ⟨v1,rfl,hx1,hv⟩;have hz1:=hx1.size;obtain⟨hc1,hf1⟩:=hx1.cells;(repeat (first|simp only[World.size_alloc] at hz1 hc1 hf1|simp only[World.size_setCell] at hz1 hc1 hf1));have JJ:w.heap.size<w1.heap.size:=oM;rcases hv with⟨rfl,q1⟩|⟨rfl,q1⟩)|(go_at_call 102;refine(bE7 _ c2 c3 s4 d4 L4 hL4 s5 d5 L5 hL5 c6 c7 c8 _ (h4.ext xT) (h5.ext xT) oM oM).mono ?_;rintro e w2 ⟨v2,rfl,hx2,hv⟩;have hz2:=hx2.size;obtain⟨hc2,hf2⟩:=hx2.cells;(repeat (first|simp only[World.size_alloc] at hz2 hc2 hf2|simp only[World.size_setCell] at hz2 hc2 hf2));have VC:w.heap.size<w2.heap.size:=oM;rcases hv with⟨rfl,q2⟩|⟨rfl,q2⟩))
 all_goals
  go_ret
  refine⟨_,rfl,?_,?_⟩
  .
   exact xT
  first|exact .inl ⟨rfl,by omega⟩|(refine .inr ⟨congrArg (Value.int .i64) ?_,?_⟩ <;> omega)
theorem aP0(w:World)(B:Nat)(s0:Value)(d0:List wK)(ss0:List Value)(s1:Value)(d1:List wK)(ss1:List Value)(c2 c3:Int)(s4:Value)(d4:List Int)(L4:Nat)(hL4:d4.length=L4*2)(s5:Value)(d5:List Int)(L5:Nat)(hL5:d5.length=L5*5)(c6 c7 c8 c9 c10 c11:Int)(q:Int)
  (h0:Px B 62 2 0 w s0 d0 ss0) (h1:Px B 312 2 1 w s1 d1 ss1) (h4:Ba B 362 2 w s4 d4) (h5:Ba B 366 5 w s5 d5)
  (hd:∀k,k ∈ Ep (s0::ss0)->k ∈ Ep (s1::ss1)->False) (hd4:∀k,k ∈ Ep (s0::ss0)++Ep (s1::ss1)->k ∈ Ep [s4]++Ep [s5]->False) (hd5:∀k,k ∈ Ep [s4]->k ∈ Ep [s5]->False)
  (hq0:0<=q) (hq1:q+(tot 0 d0:Nat)+(tot 1 d1:Nat)+(L4*2:Nat)+(L5*5:Nat)<=4611686018427387904) :
  Calls Tryz.prog 60 #[.agg #[s0,s1,.int .i64 c2,.int .i64 c3,s4,s5,.int .i64 c6,.int .i64 c7,.int .i64 c8,.int .i64 c9,.int .i64 c10,.int .i64 c11],.int .i64 q] w (IX w ((Ep (s0::ss0)++Ep (s1::ss1))++(Ep [s4]++Ep [s5])) (.int .i64 (q+(tot 0 d0:Nat)+(tot 1 d1:Nat)+(L4*2:Nat)+(L5*5:Nat))) fun w' =>
   Px B 62 2 0 w' s0 (FQ 0 q d0) ss0/\Px B 312 2 1 w' s1 (FQ 1 (q+(tot 0 d0:Nat)) d1) ss1/\Ba B 362 2 w' s4 (run (q+(tot 0 d0:Nat)+(tot 1 d1:Nat)) (L4*2))/\Ba B 366 5 w' s5 (run (q+(tot 0 d0:Nat)+(tot 1 d1:Nat)+(L4*2:Nat)) (L5*5))):=by
 obtain⟨a0,n0,k0,rfl⟩:=h0.nest.shape
 obtain⟨a1,n1,k1,rfl⟩:=h1.nest.shape
 obtain⟨a4,n4,k4,rfl⟩:=h4.shape
 obtain⟨a5,n5,k5,rfl⟩:=h5.shape
 have hf0:=h0.foot;have hf1:=h1.foot
 obtain⟨Q,hQ⟩:∃z:Int,z=q+((tot 0 d0:Nat):Int)+((tot 1 d1:Nat):Int):=⟨_,rfl⟩
 rw[<-hQ] at hq1 ⊢
 have hQ0:0<=Q:=by omega
 have hQ1:q+(tot 0 d0:Nat)+(tot 1 d1:Nat)<=4611686018427387904:=by omega
 have HQ:=Lib.hid hQ
 clear hQ
 go_enter Tryz.func60,Tryz.ntmps60
 go_wp2_with fail
 refine(ZS _ B _ _ ss0 _ _ ss1 q (h0.ext xT) (h1.ext xT) hd oM hQ1).mono ?_
 rintro e w1⟨rfl,hx1,g0,g1⟩
 rw[<-HQ.out]
 have hb:Blk w1 w.heap.size 88 #[.slice a0 n0 k0,.slice a1 n1 k1,.int .i64 c2,.int .i64 c3,.slice a4 n4 k4,.slice a5 n5 k5,.int .i64 c6,.int .i64 c7,.int .i64 c8,.int .i64 c9,.int .i64 c10,.int .i64 c11]:=Blk.upd (Blk.new _ _ _) hx1 (fun hk=>by
  rcases List.mem_append.1 hk with hh|hh
  .
   have:=hf0 _ hh;omega
  have:=hf1 _ hh;omega)
 have hc:=hb.cell;have hlt:=hb.lt
 have g4:Ba B 362 2 w1 (.slice a4 n4 k4) d4:=Ba.upd' (h4.ext ((Ext.refl w).alloc _)) hx1 (fun k h2 h3=>hd4 k h3 (List.mem_append_left _ h2))
 have g5:Ba B 366 5 w1 (.slice a5 n5 k5) d5:=Ba.upd' (h5.ext ((Ext.refl w).alloc _)) hx1 (fun k h2 h3=>hd4 k h3 (List.mem_append_right _ h2))
 go_wp2_with fail
 refine(aN3 _ B _ _ _ _ L4 hL4 _ _ L5 hL5 _ _ _ Q (g4.ext xT) (g5.ext xT) hd5 oM hq1).mono ?_
 rintro e w2⟨rfl,hx2,g4',g5'⟩
 clear hc
 go_wp2
 go_ret
 have HQ':=HQ.out
 subst HQ'
 refine⟨rfl,((Ext.upd ((Ext.refl w).alloc _) _).trans (hx1.more (fun k hk=>List.mem_append_left _ hk))).trans (hx2.more (fun k hk=>List.mem_append_right _ hk)),Px.upd g0 hx2 (fun k h2 h3=>hd4 k (List.mem_append_left _ h2) h3),Px.upd g1 hx2 (fun k h2 h3=>hd4 k (List.mem_append_right _ h2) h3),g4',g5'⟩
def DF(w:World)(v:Value)(s:EW):Prop:=∃t0 t1 t4 t5:Value,v=.agg #[t0,t1,.int .i64 s.State.Index,.int .i64 s.State.Time,t4,t5,.int .i64 s.State.Lease.Holder,.int .i64 s.State.Lease.Epoch,.int .i64 s.State.Lease.Until,.int .i64 s.Num,.int .i64 s.Last,.int .i64 s.Busy]/\Ll 0 w t0 (Bd s.Disk.Kept)/\Ll 1 w t1 (Dq s.Disk.Wait)/\Aw 2 w t4 (wI s.State.Pairs)/\Aw 5 w t5 (AQ s.State.Jobs)
def DG(B:Nat)(w:World)(v:Value)(s:EW)(F:List Nat):Prop:=∃t0 t1 t4 t5:Value,∃ss0 ss1:List Value,v=.agg #[t0,t1,.int .i64 s.State.Index,.int .i64 s.State.Time,t4,t5,.int .i64 s.State.Lease.Holder,.int .i64 s.State.Lease.Epoch,.int .i64 s.State.Lease.Until,.int .i64 s.Num,.int .i64 s.Last,.int .i64 s.Busy]/\Px B 62 2 0 w t0 (Bd s.Disk.Kept) ss0/\Px B 312 2 1 w t1 (Dq s.Disk.Wait) ss1/\Ba B 362 2 w t4 (wI s.State.Pairs)/\Ba B 366 5 w t5 (AQ s.State.Jobs)/\(∀k,k ∈ Ep (t0::ss0)->k ∈ Ep (t1::ss1)->False)/\F=(Ep (t0::ss0)++Ep (t1::ss1))++(Ep [t4]++Ep [t5])
def NI(s:EW):Nat:=tot 0 (Bd s.Disk.Kept)+tot 1 (Dq s.Disk.Wait)+s.State.Pairs.length*2+s.State.Jobs.length*5
def YU(B:Nat)(w:World)(v:Value)(s:EW)(F:List Nat)(q:Int):Prop:=∃t0 t1 t4 t5:Value,∃ss0 ss1:List Value,v=.agg #[t0,t1,.int .i64 s.State.Index,.int .i64 s.State.Time,t4,t5,.int .i64 s.State.Lease.Holder,.int .i64 s.State.Lease.Epoch,.int .i64 s.State.Lease.Until,.int .i64 s.Num,.int .i64 s.Last,.int .i64 s.Busy]/\Px B 62 2 0 w t0 (FQ 0 q (Bd s.Disk.Kept)) ss0/\Px B 312 2 1 w t1 (FQ 1 (q+(tot 0 (Bd s.Disk.Kept):Nat)) (Dq s.Disk.Wait)) ss1/\Ba B 362 2 w t4 (run (q+(tot 0 (Bd s.Disk.Kept):Nat)+(tot 1 (Dq s.Disk.Wait):Nat)) (s.State.Pairs.length*2))/\Ba B 366 5 w t5 (run (q+(tot 0 (Bd s.Disk.Kept):Nat)+(tot 1 (Dq s.Disk.Wait):Nat)+(s.State.Pairs.length*2:Nat)) (s.State.Jobs.length*5))
section
variable {B B':Nat} {w w':World} {v:Value} {s s':EW} {F:List Nat} {q:Int}
theorem DF.shape(h:DF w v s):∃a0 n0 k0 a1 n1 k1 a4 n4 k4 a5 n5 k5,v=.agg #[.slice a0 n0 k0,.slice a1 n1 k1,.int .i64 s.State.Index,.int .i64 s.State.Time,.slice a4 n4 k4,.slice a5 n5 k5,.int .i64 s.State.Lease.Holder,.int .i64 s.State.Lease.Epoch,.int .i64 s.State.Lease.Until,.int .i64 s.Num,.int .i64 s.Last,.int .i64 s.Busy]:=by
 obtain⟨t0,t1,t4,t5,rfl,h0,h1,h4,h5⟩:=h
 obtain⟨a0,n0,k0,rfl⟩:=h0.shape
 obtain⟨a1,n1,k1,rfl⟩:=h1.shape
 obtain⟨a4,n4,k4,rfl⟩:=h4.shape
 obtain⟨a5,n5,k5,rfl⟩:=h5.shape
 exact⟨a0,n0,k0,a1,n1,k1,a4,n4,k4,a5,n5,k5,rfl⟩
theorem DF.ext(h:DF w v s)(x:Ext w w'):DF w' v s:=let ⟨t0,t1,t4,t5,e,h0,h1,h4,h5⟩:=h;⟨t0,t1,t4,t5,e,h0.ext x,h1.ext x,h4.ext x,h5.ext x⟩
theorem DG.rd(h:DG B w v s F):DF w v s:=let ⟨t0,t1,t4,t5,_,_,e,h0,h1,h4,h5,_,_⟩:=h;⟨t0,t1,t4,t5,e,h0.nest,h1.nest,h4.ints,h5.ints⟩
theorem DG.ext(h:DG B w v s F)(x:Ext w w'):DG B w' v s F:=let ⟨t0,t1,t4,t5,s0,s1,e,h0,h1,h4,h5,hd,hF⟩:=h;⟨t0,t1,t4,t5,s0,s1,e,h0.ext x,h1.ext x,Own.ext h4 x,Own.ext h5 x,hd,hF⟩
theorem DG.keep(h:DG B w v s F)(x:Chg B w w'):DG B w' v s F:=let ⟨t0,t1,t4,t5,s0,s1,e,h0,h1,h4,h5,hd,hF⟩:=h;⟨t0,t1,t4,t5,s0,s1,e,h0.keep x,h1.keep x,h4.keep x,h5.keep x,hd,hF⟩
theorem DG.mono(h:DG B w v s F)(x:B'<=B):DG B' w v s F:=let ⟨t0,t1,t4,t5,s0,s1,e,h0,h1,h4,h5,hd,hF⟩:=h;⟨t0,t1,t4,t5,s0,s1,e,h0.mono x,h1.mono x,h4.mono x,h5.mono x,hd,hF⟩
theorem DG.cast(h:DG B w v s F)(e:s=s'):DG B w v s' F:=e ▸ h
theorem DG.upd(h:DG B w v s F){fs:List Nat}(x:Upd w w' fs)(hn:∀k,k ∈ F->k ∈ fs->False):DG B w' v s F:=by
 obtain⟨t0,t1,t4,t5,s0,s1,e,h0,h1,h4,h5,hd,rfl⟩:=h
 exact⟨t0,t1,t4,t5,s0,s1,e,h0.upd x (fun k h=>hn k (List.mem_append_left _ (List.mem_append_left _ h))),h1.upd x (fun k h=>hn k (List.mem_append_left _ (List.mem_append_right _ h))),Ba.upd' h4 x (fun k h=>hn k (List.mem_append_right _ (List.mem_append_left _ h))),Ba.upd' h5 x (fun k h=>hn k (List.mem_append_right _ (List.mem_append_right _ h))),hd,rfl⟩
theorem DG.low(h:DG B w v s F):∀k,k ∈ F->B<=k/\k<w.heap.size:=by
 obtain⟨t0,t1,t4,t5,s0,s1,e,h0,h1,h4,h5,hd,rfl⟩:=h
 intro k hk
 rcases List.mem_append.1 hk with h|h
 .
  rcases List.mem_append.1 h with h|h
  .
   exact h0.foot k h
  exact h1.foot k h
 rcases List.mem_append.1 h with h|h
 .
  exact h4.foot k h
 exact h5.foot k h
theorem YU.ext(h:YU B w v s F q)(x:Ext w w'):YU B w' v s F q:=let ⟨t0,t1,t4,t5,s0,s1,e,h0,h1,h4,h5⟩:=h;⟨t0,t1,t4,t5,s0,s1,e,h0.ext x,h1.ext x,Own.ext h4 x,Own.ext h5 x⟩
theorem bR6(h:DF w v s){left:Int}(h0:0<=left)(h1:left<=1048576):Calls Tryz.prog 34 #[v,.int .i64 left] w (Ret w fun v' _=>SzR left (Mj (Bd s.Disk.Kept)+Mj (Dq s.Disk.Wait)+s.State.Pairs.length+s.State.Jobs.length) v'):=by
 obtain⟨t0,t1,t4,t5,rfl,g0,g1,g4,g5⟩:=h
 exact bH1 w t0 _ t1 _ _ _ t4 _ _ (DJ _) t5 _ _ (FM _) _ _ _ _ _ _ left g0 g1 g4 g5 h0 h1
theorem bR7{u:Value}(h:DF w v s)(k:DF w u s):Calls Tryz.prog 53 #[v,u] w (Fz w (.bool true)):=by
 obtain⟨t0,t1,t4,t5,rfl,h0,h1,h4,h5⟩:=h
 obtain⟨u0,u1,u4,u5,rfl,k0,k1,k4,k5⟩:=k
 exact bE1 w t0 u0 _ t1 u1 _ _ _ t4 u4 _ t5 u5 _ _ _ _ _ _ _ h0 k0 h1 k1 h4 k4 h5 k5
end
theorem aW6(w:World)(s0:Value)(d0:List (List Int × List Int))(s1:Value)(d1:List (List Int × List Int))(c2:Int)(c3:Int)(s4:Value)(d4:List Int)(L4:Nat)(hL4:d4.length=L4*2)(s5:Value)(d5:List Int)(L5:Nat)(hL5:d5.length=L5*5)(c6:Int)(c7:Int)(c8:Int)(c9:Int)(c10:Int)(c11:Int)(h0:Ll 0 w s0 d0)(hs0:Mj d0<=1048576)(h1:Ll 1 w s1 d1)(hs1:Mj d1<=1048576)(h4:Aw 2 w s4 d4)(hs4:L4<=1048576)(h5:Aw 5 w s5 d5)(hs5:L5<=1048576):Calls Tryz.prog 44 #[.agg #[s0,s1,.int .i64 c2,.int .i64 c3,s4,s5,.int .i64 c6,.int .i64 c7,.int .i64 c8,.int .i64 c9,.int .i64 c10,.int .i64 c11]] w (Ret w fun v w'=>∃t0 t1 t4 t5:Value,v=.agg #[t0,t1,.int .i64 c2,.int .i64 c3,t4,t5,.int .i64 c6,.int .i64 c7,.int .i64 c8,.int .i64 c9,.int .i64 c10,.int .i64 c11]/\∃ss0 ss1:List Value,Px w.heap.size 62 2 0 w' t0 d0 ss0/\Px w.heap.size 312 2 1 w' t1 d1 ss1/\(∀k,k ∈ Ep (t0::ss0)->k ∈ Ep (t1::ss1)->False)/\Ba w.heap.size 362 2 w' t4 d4/\Ba w.heap.size 366 5 w' t5 d5):=by
 go_enter Tryz.func44,Tryz.ntmps44
 go_wp2_with (first|(go_at_call 124;refine(aF3 _ s0 d0 s1 d1 (h0.ext xT) hs0 (h1.ext xT) hs1).mono ?_;rintro e w1 ⟨_,rfl,hx1,t0,t1,rfl,ss0,ss1,g0,g1,hd⟩;obtain⟨ta0,tn0,tc0,rfl⟩:=g0.nest.shape;obtain⟨ta1,tn1,tc1,rfl⟩:=g1.nest.shape;have hz1:=hx1.size;obtain⟨hc1,hf1⟩:=hx1.cells;(repeat (first|simp only[World.size_alloc] at hz1 hc1 hf1 g0 g1|simp only[World.size_setCell] at hz1 hc1 hf1 g0 g1));have JJ:w.heap.size<w1.heap.size:=oM;have PP:w.heap.size+1<w1.heap.size:=oM;have aC9:w.heap.size+1+1<w1.heap.size:=oM)|(go_at_call 125;refine(bE6 _ c2 c3 s4 d4 L4 hL4 s5 d5 L5 hL5 c6 c7 c8 (h4.ext xT) hs4 (h5.ext xT) hs5).mono ?_;rintro e w2 ⟨_,rfl,hx2,t4,t5,rfl,g4,g5⟩;obtain⟨ta4,tn4,tc4,rfl⟩:=g4.shape;obtain⟨ta5,tn5,tc5,rfl⟩:=g5.shape;have hz2:=hx2.size;obtain⟨hc2,hf2⟩:=hx2.cells;(repeat (first|simp only[World.size_alloc] at hz2 hc2 hf2 g4 g5|simp only[World.size_setCell] at hz2 hc2 hf2 g4 g5));have VC:w.heap.size<w2.heap.size:=oM;have aD0:w.heap.size+1<w2.heap.size:=oM;have bZ4:w.heap.size+1+1<w2.heap.size:=oM))
 refine bodyPost_ret (v:=.agg #[.slice ta0 tn0 tc0,.slice ta1 tn1 tc1,.int .i64 c2,.int .i64 c3,.slice ta4 tn4 tc4,.slice ta5 tn5 tc5,.int .i64 c6,.int .i64 c7,.int .i64 c8,.int .i64 c9,.int .i64 c10,.int .i64 c11]) ?_ rfl ?_
 .
  simp[results,Tryz.results44,go_sem, *]
 refine⟨_,rfl,?_,_,_,_,_,rfl,ss0,ss1,(g0.keep ?_).mono ?_,(g1.keep ?_).mono ?_,hd,(g4.keep ?_).mono ?_,(g5.keep ?_).mono ?_⟩
 all_goals clear hc1 hf1 hc2 hf2
 .
  exact xT
 .
  repeat' (first|(with_reducible exact Chg.refl _ _)|(with_reducible refine Chg.drewN ?_ _)|(with_reducible refine Chg.drew ?_)|(with_reducible refine Chg.alloc ?_ _)|(with_reducible refine Chg.setLow ?_ ?_ _)|(with_reducible refine Chg.ext ?_ (by assumption))|omega)
 .
  omega
 .
  repeat' (first|(with_reducible exact Chg.refl _ _)|(with_reducible refine Chg.drewN ?_ _)|(with_reducible refine Chg.drew ?_)|(with_reducible refine Chg.alloc ?_ _)|(with_reducible refine Chg.setLow ?_ ?_ _)|(with_reducible refine Chg.ext ?_ (by assumption))|omega)
 .
  omega
 .
  repeat' (first|(with_reducible exact Chg.refl _ _)|(with_reducible refine Chg.drewN ?_ _)|(with_reducible refine Chg.drew ?_)|(with_reducible refine Chg.alloc ?_ _)|(with_reducible refine Chg.setLow ?_ ?_ _)|(with_reducible refine Chg.ext ?_ (by assumption))|omega)
 .
  omega
 .
  repeat' (first|(with_reducible exact Chg.refl _ _)|(with_reducible refine Chg.drewN ?_ _)|(with_reducible refine Chg.drew ?_)|(with_reducible refine Chg.alloc ?_ _)|(with_reducible refine Chg.setLow ?_ ?_ _)|(with_reducible refine Chg.ext ?_ (by assumption))|omega)
 omega
theorem bR8{w:World}{v:Value}{s:EW}(h:DF w v s)(hs0:Mj (Bd s.Disk.Kept)<=1048576)(hs1:Mj (Dq s.Disk.Wait)<=1048576)(hs4:s.State.Pairs.length<=1048576)(hs5:s.State.Jobs.length<=1048576):Calls Tryz.prog 44 #[v] w (Ret w fun v' w'=>∃F,DG w.heap.size w' v' s F):=by
 obtain⟨t0,t1,t4,t5,rfl,h0,h1,h4,h5⟩:=h
 refine(aW6 w t0 _ t1 _ _ _ t4 _ _ (DJ _) t5 _ _ (FM _) _ _ _ _ _ _ h0 hs0 h1 hs1 h4 hs4 h5 hs5).mono ?_
 rintro e w'⟨_,rfl,hx,u0,u1,u4,u5,rfl,s0,s1,g0,g1,hd,g4,g5⟩
 exact⟨_,rfl,hx,_,u0,u1,u4,u5,s0,s1,rfl,g0,g1,g4,g5,hd,rfl⟩
noncomputable def KN(s:EW):Bool:=MS s.Disk&&(EA s.State&&(inb s.Num 0 1000000000&&(inb s.Last 0 s.State.Index&&((decide (s.Num=0) == decide (s.Last=0))&&(decide (s.Busy=0)||(decide (s.Num<1000000000)&&(decide (s.Last<s.Busy)&&decide (s.Busy<=s.State.Index))))))))
theorem UV{s:BU}(h:EA s=true):0<=s.Index/\s.Index<=2000:=by
 simp only[EA,Bool.and_eq_true] at h
 exact AO.1 h.1
theorem aW7(w:World)(AU:Value)(Bl:List (List Int))(DL:Value)(Cq:List AG)(Uu:Int)(wY:Int)(bZ5:Value)(aZ7:List AP)(XT:Value)(VR:List DI)(Ih:Int)(XU:Int)(Py:Int)(Oh:Int)(Ee:Int)(UC:Int)(AW:Ll 0 w AU (Bd Bl))(CH:Ll 1 w DL (Dq Cq))(cO8:Aw 2 w bZ5 (wI aZ7))(aZ6:Aw 5 w XT (AQ VR)):Calls Tryz.prog 210 #[.agg #[AU,DL,.int .i64 Uu,.int .i64 wY,bZ5,XT,.int .i64 Ih,.int .i64 XU,.int .i64 Py,.int .i64 Oh,.int .i64 Ee,.int .i64 UC]] w (Fz w (.bool (KN (⟨⟨Bl,Cq⟩,⟨Uu,wY,aZ7,VR,⟨Ih,XU,Py⟩⟩,Oh,Ee,UC⟩:EW)))):=by
 obtain⟨cU9,cV0,cI6,rfl⟩:=AW.shape
 obtain⟨cV1,cV2,cI7,rfl⟩:=CH.shape
 obtain⟨cV3,cV4,cV5,rfl⟩:=cO8.shape
 obtain⟨cV6,cV7,cV8,rfl⟩:=aZ6.shape
 by_cases hl:0<=Ee/\Ee<=2000
 obtain⟨hl1,hl2⟩:=hl
 rotate_left
 have hno:EA (⟨Uu,wY,aZ7,VR,⟨Ih,XU,Py⟩⟩:BU)=true->inb Ee 0 Uu=false:=fun h=>by
  have:=UV h
  simp only[] at this
  by_cases h1:inb Ee 0 Uu=true
  .
   have h2:=AO.1 h1
   exact(hl ⟨by omega,by omega⟩).elim
  simpa using h1
 clear hl
 all_goals
   have rr:=JM
   go_enter Tryz.func210,Tryz.ntmps210
   go_wp2_with (first|(go_at_call 315;refine(aU6 _ _ _ _ _ (by first|(with_reducible exact Ll.ext (by assumption) xT)|(with_reducible exact Ll.ext (DZ.nest (by assumption)) xT)) (by first|(with_reducible exact Ll.ext (by assumption) xT)|(with_reducible exact Ll.ext (DZ.nest (by assumption)) xT)) ).mono ?_;rintro e wa ⟨rfl,hxa⟩;have hza:=hxa.size;(repeat (first|simp only[World.size_alloc] at hza|simp only[World.size_setCell] at hza|simp only[wV] at hza));(try have hya_b_0:wb.heap.size<wa.heap.size:=oM);(try have hya_b_1:wb.heap.size+1<wa.heap.size:=oM);(try have hya_b_2:wb.heap.size+1+1<wa.heap.size:=oM);(try have hya_c_0:wc.heap.size<wa.heap.size:=oM);(try have hya_c_1:wc.heap.size+1<wa.heap.size:=oM);(try have hya_c_2:wc.heap.size+1+1<wa.heap.size:=oM);have Ka0:Blk wa (w.heap.size) 88 _:=Blk.ext (by exact wJ) hxa;(try simp only[EP] at Ka0);have CKa0:=Ka0.cell;have FKa0:=Ka0.frozen;have hya__0:w.heap.size<wa.heap.size:=oM;(try(have Ka_b0:Blk wa (wb.heap.size) _ _:=Blk.ext (by exact wJ) hxa;(try simp only[EP] at Ka_b0);have CKa_b0:=Ka_b0.cell;have FKa_b0:=Ka_b0.frozen));(try(have Ka_b1:Blk wa (wb.heap.size+1) _ _:=Blk.ext (by exact wJ) hxa;(try simp only[EP] at Ka_b1);have CKa_b1:=Ka_b1.cell;have FKa_b1:=Ka_b1.frozen));(try(have Ka_b2:Blk wa (wb.heap.size+1+1) _ _:=Blk.ext (by exact wJ) hxa;(try simp only[EP] at Ka_b2);have CKa_b2:=Ka_b2.cell;have FKa_b2:=Ka_b2.frozen));(try(have Ka_c0:Blk wa (wc.heap.size) _ _:=Blk.ext (by exact wJ) hxa;(try simp only[EP] at Ka_c0);have CKa_c0:=Ka_c0.cell;have FKa_c0:=Ka_c0.frozen));(try(have Ka_c1:Blk wa (wc.heap.size+1) _ _:=Blk.ext (by exact wJ) hxa;(try simp only[EP] at Ka_c1);have CKa_c1:=Ka_c1.cell;have FKa_c1:=Ka_c1.frozen));(try(have Ka_c2:Blk wa (wc.heap.size+1+1) _ _:=Blk.ext (by exact wJ) hxa;(try simp only[EP] at Ka_c2);have CKa_c2:=Ka_c2.cell;have FKa_c2:=Ka_c2.frozen)))|(go_at_call 316;refine(VJ _ _ _ _ _ _ _ _ _ _ (by first|(with_reducible exact Aw.ext (by assumption) xT)|(with_reducible exact Aw.ext (Ba.ints (by assumption)) xT)|with_reducible exact XV _ _) (by first|(with_reducible exact Aw.ext (by assumption) xT)|(with_reducible exact Aw.ext (Ba.ints (by assumption)) xT)|with_reducible exact ZB _ _) ).mono ?_;rintro e wb ⟨rfl,hxb⟩;have hzb:=hxb.size;(repeat (first|simp only[World.size_alloc] at hzb|simp only[World.size_setCell] at hzb|simp only[wV] at hzb));(try have hyb_a_0:wa.heap.size<wb.heap.size:=oM);(try have hyb_a_1:wa.heap.size+1<wb.heap.size:=oM);(try have hyb_a_2:wa.heap.size+1+1<wb.heap.size:=oM);(try have hyb_c_0:wc.heap.size<wb.heap.size:=oM);(try have hyb_c_1:wc.heap.size+1<wb.heap.size:=oM);(try have hyb_c_2:wc.heap.size+1+1<wb.heap.size:=oM);have Kb0:Blk wb (w.heap.size) 88 _:=Blk.ext (by exact wJ) hxb;(try simp only[EP] at Kb0);have CKb0:=Kb0.cell;have FKb0:=Kb0.frozen;have hyb__0:w.heap.size<wb.heap.size:=oM;(try(have Kb_a0:Blk wb (wa.heap.size) _ _:=Blk.ext (by exact wJ) hxb;(try simp only[EP] at Kb_a0);have CKb_a0:=Kb_a0.cell;have FKb_a0:=Kb_a0.frozen));(try(have Kb_a1:Blk wb (wa.heap.size+1) _ _:=Blk.ext (by exact wJ) hxb;(try simp only[EP] at Kb_a1);have CKb_a1:=Kb_a1.cell;have FKb_a1:=Kb_a1.frozen));(try(have Kb_a2:Blk wb (wa.heap.size+1+1) _ _:=Blk.ext (by exact wJ) hxb;(try simp only[EP] at Kb_a2);have CKb_a2:=Kb_a2.cell;have FKb_a2:=Kb_a2.frozen));(try(have Kb_c0:Blk wb (wc.heap.size) _ _:=Blk.ext (by exact wJ) hxb;(try simp only[EP] at Kb_c0);have CKb_c0:=Kb_c0.cell;have FKb_c0:=Kb_c0.frozen));(try(have Kb_c1:Blk wb (wc.heap.size+1) _ _:=Blk.ext (by exact wJ) hxb;(try simp only[EP] at Kb_c1);have CKb_c1:=Kb_c1.cell;have FKb_c1:=Kb_c1.frozen));(try(have Kb_c2:Blk wb (wc.heap.size+1+1) _ _:=Blk.ext (by exact wJ) hxb;(try simp only[EP] at Kb_c2);have CKb_c2:=Kb_c2.cell;have FKb_c2:=Kb_c2.frozen)))|(go_at_call 303;refine(wR _ _ _ _  ).mono ?_;rintro e wc ⟨rfl,rfl⟩))
   all_goals
    go_ret
    refine⟨by first|rfl|(simp[KN,inb,Int.add_one_le_iff, *];done)|(simp[KN,inb,Int.add_one_le_iff, *];omega)|(simp_all [KN,inb,Int.add_one_le_iff,bq,bn];done)|(simp_all [KN,inb,Int.add_one_le_iff,bq,bn];omega),?_⟩
    exact xT
theorem bH2(w:World)(AU:Value)(Bl:List (List Int))(DL:Value)(Cq:List AG)(Uu:Int)(wY:Int)(bZ5:Value)(aZ7:List AP)(XT:Value)(VR:List DI)(Ih:Int)(XU:Int)(Py:Int)(Oh:Int)(Ee:Int)(UC:Int)(AW:Ll 0 w AU (Bd Bl))(CH:Ll 1 w DL (Dq Cq))(cO8:Aw 2 w bZ5 (wI aZ7))(aZ6:Aw 5 w XT (AQ VR)):Calls Tryz.prog 185 #[.agg #[AU,DL,.int .i64 Uu,.int .i64 wY,bZ5,XT,.int .i64 Ih,.int .i64 XU,.int .i64 Py,.int .i64 Oh,.int .i64 Ee,.int .i64 UC]] w (Fz w (.bool (KN (⟨⟨Bl,Cq⟩,⟨Uu,wY,aZ7,VR,⟨Ih,XU,Py⟩⟩,Oh,Ee,UC⟩:EW)))):=by
 obtain⟨cU9,cV0,cI6,rfl⟩:=AW.shape
 obtain⟨cV1,cV2,cI7,rfl⟩:=CH.shape
 obtain⟨cV3,cV4,cV5,rfl⟩:=cO8.shape
 obtain⟨cV6,cV7,cV8,rfl⟩:=aZ6.shape
 by_cases hl:0<=Ee/\Ee<=2000
 obtain⟨hl1,hl2⟩:=hl
 rotate_left
 have hno:EA (⟨Uu,wY,aZ7,VR,⟨Ih,XU,Py⟩⟩:BU)=true->inb Ee 0 Uu=false:=fun h=>by
  have:=UV h
  simp only[] at this
  by_cases h1:inb Ee 0 Uu=true
  .
   have h2:=AO.1 h1
   exact(hl ⟨by omega,by omega⟩).elim
  simpa using h1
 clear hl
 all_goals
   have rr:=JM
   go_enter Tryz.func185,Tryz.ntmps185
   go_wp2_with (first|(go_at_call 291;refine(bF3 _ _ _ _ _ (by first|(with_reducible exact Ll.ext (by assumption) xT)|(with_reducible exact Ll.ext (DZ.nest (by assumption)) xT)) (by first|(with_reducible exact Ll.ext (by assumption) xT)|(with_reducible exact Ll.ext (DZ.nest (by assumption)) xT)) ).mono ?_;rintro e wa ⟨rfl,hxa⟩;have hza:=hxa.size;(repeat (first|simp only[World.size_alloc] at hza|simp only[World.size_setCell] at hza|simp only[wV] at hza));(try have hya_b_0:wb.heap.size<wa.heap.size:=oM);(try have hya_b_1:wb.heap.size+1<wa.heap.size:=oM);(try have hya_b_2:wb.heap.size+1+1<wa.heap.size:=oM);(try have hya_c_0:wc.heap.size<wa.heap.size:=oM);(try have hya_c_1:wc.heap.size+1<wa.heap.size:=oM);(try have hya_c_2:wc.heap.size+1+1<wa.heap.size:=oM);have Ka0:Blk wa (w.heap.size) 88 _:=Blk.ext (by exact wJ) hxa;(try simp only[EP] at Ka0);have CKa0:=Ka0.cell;have FKa0:=Ka0.frozen;have hya__0:w.heap.size<wa.heap.size:=oM;(try(have Ka_b0:Blk wa (wb.heap.size) _ _:=Blk.ext (by exact wJ) hxa;(try simp only[EP] at Ka_b0);have CKa_b0:=Ka_b0.cell;have FKa_b0:=Ka_b0.frozen));(try(have Ka_b1:Blk wa (wb.heap.size+1) _ _:=Blk.ext (by exact wJ) hxa;(try simp only[EP] at Ka_b1);have CKa_b1:=Ka_b1.cell;have FKa_b1:=Ka_b1.frozen));(try(have Ka_b2:Blk wa (wb.heap.size+1+1) _ _:=Blk.ext (by exact wJ) hxa;(try simp only[EP] at Ka_b2);have CKa_b2:=Ka_b2.cell;have FKa_b2:=Ka_b2.frozen));(try(have Ka_c0:Blk wa (wc.heap.size) _ _:=Blk.ext (by exact wJ) hxa;(try simp only[EP] at Ka_c0);have CKa_c0:=Ka_c0.cell;have FKa_c0:=Ka_c0.frozen));(try(have Ka_c1:Blk wa (wc.heap.size+1) _ _:=Blk.ext (by exact wJ) hxa;(try simp only[EP] at Ka_c1);have CKa_c1:=Ka_c1.cell;have FKa_c1:=Ka_c1.frozen));(try(have Ka_c2:Blk wa (wc.heap.size+1+1) _ _:=Blk.ext (by exact wJ) hxa;(try simp only[EP] at Ka_c2);have CKa_c2:=Ka_c2.cell;have FKa_c2:=Ka_c2.frozen)))|(go_at_call 242;refine(XE _ _ _ _ _ _ _ _ _ _ (by first|(with_reducible exact Aw.ext (by assumption) xT)|(with_reducible exact Aw.ext (Ba.ints (by assumption)) xT)|with_reducible exact XV _ _) (by first|(with_reducible exact Aw.ext (by assumption) xT)|(with_reducible exact Aw.ext (Ba.ints (by assumption)) xT)|with_reducible exact ZB _ _) ).mono ?_;rintro e wb ⟨rfl,hxb⟩;have hzb:=hxb.size;(repeat (first|simp only[World.size_alloc] at hzb|simp only[World.size_setCell] at hzb|simp only[wV] at hzb));(try have hyb_a_0:wa.heap.size<wb.heap.size:=oM);(try have hyb_a_1:wa.heap.size+1<wb.heap.size:=oM);(try have hyb_a_2:wa.heap.size+1+1<wb.heap.size:=oM);(try have hyb_c_0:wc.heap.size<wb.heap.size:=oM);(try have hyb_c_1:wc.heap.size+1<wb.heap.size:=oM);(try have hyb_c_2:wc.heap.size+1+1<wb.heap.size:=oM);have Kb0:Blk wb (w.heap.size) 88 _:=Blk.ext (by exact wJ) hxb;(try simp only[EP] at Kb0);have CKb0:=Kb0.cell;have FKb0:=Kb0.frozen;have hyb__0:w.heap.size<wb.heap.size:=oM;(try(have Kb_a0:Blk wb (wa.heap.size) _ _:=Blk.ext (by exact wJ) hxb;(try simp only[EP] at Kb_a0);have CKb_a0:=Kb_a0.cell;have FKb_a0:=Kb_a0.frozen));(try(have Kb_a1:Blk wb (wa.heap.size+1) _ _:=Blk.ext (by exact wJ) hxb;(try simp only[EP] at Kb_a1);have CKb_a1:=Kb_a1.cell;have FKb_a1:=Kb_a1.frozen));(try(have Kb_a2:Blk wb (wa.heap.size+1+1) _ _:=Blk.ext (by exact wJ) hxb;(try simp only[EP] at Kb_a2);have CKb_a2:=Kb_a2.cell;have FKb_a2:=Kb_a2.frozen));(try(have Kb_c0:Blk wb (wc.heap.size) _ _:=Blk.ext (by exact wJ) hxb;(try simp only[EP] at Kb_c0);have CKb_c0:=Kb_c0.cell;have FKb_c0:=Kb_c0.frozen));(try(have Kb_c1:Blk wb (wc.heap.size+1) _ _:=Blk.ext (by exact wJ) hxb;(try simp only[EP] at Kb_c1);have CKb_c1:=Kb_c1.cell;have FKb_c1:=Kb_c1.frozen));(try(have Kb_c2:Blk wb (wc.heap.size+1+1) _ _:=Blk.ext (by exact wJ) hxb;(try simp only[EP] at Kb_c2);have CKb_c2:=Kb_c2.cell;have FKb_c2:=Kb_c2.frozen)))|(go_at_call 176;refine(Og _ _ _ _  ).mono ?_;rintro e wc ⟨rfl,rfl⟩))
   all_goals
    go_ret
    refine⟨by first|rfl|(simp[KN,inb, *];done)|(simp[KN,inb, *];omega)|(simp_all [KN,inb,bq,bn];done)|(simp_all [KN,inb,bq,bn];omega),?_⟩
    exact xT
section
variable {B:Nat} {w:World}
theorem DG.nil(B:Nat)(w:World):DG B w (.agg #[.slice none 0 0,.slice none 0 0,.int .i64 0,.int .i64 0,.slice none 0 0,.slice none 0 0,.int .i64 0,.int .i64 0,.int .i64 0,.int .i64 0,.int .i64 0,.int .i64 0]) ⟨⟨[],[]⟩,⟨0,0,[],[],⟨0,0,0⟩⟩,0,0,0⟩ [] :=
 ⟨_,_,_,_,[],[],rfl,Px.nil _ _ _ _ _,Px.nil _ _ _ _ _,Ba.nil _ _ _ _,Ba.nil _ _ _ _,by simp[Ep,Value.ownBlock],by simp[Ep,Value.ownBlock]⟩
theorem IJ.store{a b:Value}{d:EI}(h:IJ B w (.agg #[a,b]) d):∃F,DG B w (.agg #[a,b,.int .i64 0,.int .i64 0,.slice none 0 0,.slice none 0 0,.int .i64 0,.int .i64 0,.int .i64 0,.int .i64 0,.int .i64 0,.int .i64 0]) ⟨d,⟨0,0,[],[],⟨0,0,0⟩⟩,0,0,0⟩ F:=by
 obtain⟨t0,t1,ss0,ss1,e,h0,h1,hd⟩:=h
 injection e with e;injection e with e;injection e with e1 e;injection e with e2 _
 subst e1;subst e2
 exact⟨_,_,_,_,_,ss0,ss1,rfl,h0,h1,Ba.nil _ _ _ _,Ba.nil _ _ _ _,hd,rfl⟩
end
theorem aW8{w:World}{v:Value}{s:EW}(h:DF w v s):Calls Tryz.prog 210 #[v] w (Fz w (.bool (KN s))):=by
 obtain⟨t0,t1,t4,t5,rfl,h0,h1,h4,h5⟩:=h
 exact aW7 w t0 s.Disk.Kept t1 s.Disk.Wait s.State.Index s.State.Time t4 s.State.Pairs t5 s.State.Jobs s.State.Lease.Holder s.State.Lease.Epoch s.State.Lease.Until s.Num s.Last s.Busy h0 h1 h4 h5
theorem bH3{w:World}{v:Value}{s:EW}(h:DF w v s):Calls Tryz.prog 185 #[v] w (Fz w (.bool (KN s))):=by
 obtain⟨t0,t1,t4,t5,rfl,h0,h1,h4,h5⟩:=h
 exact bH2 w t0 s.Disk.Kept t1 s.Disk.Wait s.State.Index s.State.Time t4 s.State.Pairs t5 s.State.Jobs s.State.Lease.Holder s.State.Lease.Epoch s.State.Lease.Until s.Num s.Last s.Busy h0 h1 h4 h5
end Go.Proofs.YtkpmbocbbgocbaaGreat
