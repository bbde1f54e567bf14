/- KD Q2 Q3. -/
import Derived.Test.YtkpmbocbbgocbaaGreatQGe
set_option linter.unusedSimpArgs false
set_option linter.unusedVariables false
set_option maxHeartbeats 8000000
set_option maxRecDepth 100000
namespace Go.Proofs.YtkpmbocbbgocbaaGreat
open Go.RowKit Go.G8
def Gw(w:World)(v:Value)(d:Ez):Prop:=∃t0 t1:Value,v=.agg #[t0,t1]/\Ck 0 w t0 (Ac d.Kept)/\Ck 1 w t1 (Ah d.Wait)
def Dc(B:Nat)(w:World)(v:Value)(d:Ez)(F:List Nat):Prop:=∃t0 t1:Value,∃ss0 ss1:List Value,v=.agg #[t0,t1]/\Bi B 62 2 0 w t0 (Ac d.Kept) ss0/\Bi B 312 2 1 w t1 (Ah d.Wait) ss1/\(∀k,k ∈ Be (t0::ss0)->k ∈ Be (t1::ss1)->False)/\F=Be (t0::ss0)++Be (t1::ss1)
def pN(d:Ez):Nat:=tot 0 (Ac d.Kept)+tot 1 (Ah d.Wait)
def Tf(B:Nat)(w:World)(v:Value)(d:Ez)(F:List Nat)(q:Int):Prop:=∃t0 t1:Value,∃ss0 ss1:List Value,v=.agg #[t0,t1]/\Bi B 62 2 0 w t0 (Zl 0 q (Ac d.Kept)) ss0/\Bi B 312 2 1 w t1 (Zl 1 (q+(tot 0 (Ac d.Kept):Nat)) (Ah d.Wait)) ss1/\F=Be (t0::ss0)++Be (t1::ss1)
section
variable {B B':Nat} {w w':World} {v:Value} {d d':Ez} {F:List Nat} {q:Int}
theorem Ee.ow(h:Ee B w v d):∃F,Dc B w v d F:=let ⟨t0,t1,ss0,ss1,e,h0,h1,hd⟩:=h;⟨_,t0,t1,ss0,ss1,e,h0,h1,hd,rfl⟩
theorem Gw.shape(h:Gw w v d):∃a0 n0 k0 a1 n1 k1,v=.agg #[.slice a0 n0 k0,.slice a1 n1 k1]:=by
 obtain⟨t0,t1,rfl,h0,h1⟩:=h
 obtain⟨a0,n0,k0,rfl⟩:=h0.shape
 obtain⟨a1,n1,k1,rfl⟩:=h1.shape
 exact⟨a0,n0,k0,a1,n1,k1,rfl⟩
theorem Gw.ext(h:Gw w v d)(x:Ext w w'):Gw w' v d:=let ⟨t0,t1,e,h0,h1⟩:=h;⟨t0,t1,e,h0.ext x,h1.ext x⟩
theorem Gw.get{a0 n0 k0 a1 n1 k1}(h:Gw w (.agg #[.slice a0 n0 k0,.slice a1 n1 k1]) d):Ck 0 w (.slice a0 n0 k0) (Ac d.Kept)/\Ck 1 w (.slice a1 n1 k1) (Ah d.Wait):=by
 obtain⟨t0,t1,e,h0,h1⟩:=h
 injection e with e;injection e with e;injection e with e1 e;injection e with e2 _
 subst e1;subst e2
 exact⟨h0,h1⟩
theorem Dc.rd(h:Dc B w v d F):Gw w v d:=let ⟨t0,t1,_,_,e,h0,h1,_,_⟩:=h;⟨t0,t1,e,h0.nest,h1.nest⟩
theorem Dc.ext(h:Dc B w v d F)(x:Ext w w'):Dc B w' v d F:=let ⟨t0,t1,s0,s1,e,h0,h1,hd,hF⟩:=h;⟨t0,t1,s0,s1,e,h0.ext x,h1.ext x,hd,hF⟩
theorem Dc.upd(h:Dc B w v d F){fs:List Nat}(x:Upd w w' fs)(hn:∀k,k ∈ F->k ∈ fs->False):Dc B w' v d F:=by
 obtain⟨t0,t1,s0,s1,e,h0,h1,hd,rfl⟩:=h
 exact⟨t0,t1,s0,s1,e,h0.upd x (fun k h=>hn k (List.mem_append_left _ h)),h1.upd x (fun k h=>hn k (List.mem_append_right _ h)),hd,rfl⟩
theorem Dc.low(h:Dc B w v d F):∀k,k ∈ F->B<=k/\k<w.heap.size:=by
 obtain⟨t0,t1,s0,s1,e,h0,h1,hd,rfl⟩:=h
 intro k hk
 rcases List.mem_append.1 hk with h|h
 .
  exact h0.foot k h
 exact h1.foot k h
theorem Ee.rd(h:Ee B w v d):Gw w v d:=let ⟨t0,t1,_,_,e,h0,h1,_⟩:=h;⟨t0,t1,e,h0.nest,h1.nest⟩
theorem Dc.is(h:Dc B w v d F):Ee B w v d:=let ⟨t0,t1,s0,s1,e,h0,h1,hd,_⟩:=h;⟨t0,t1,s0,s1,e,h0,h1,hd⟩
theorem Tf.ext(h:Tf B w v d F q)(x:Ext w w'):Tf B w' v d F q:=let ⟨t0,t1,s0,s1,e,h0,h1,hF⟩:=h;⟨t0,t1,s0,s1,e,h0.ext x,h1.ext x,hF⟩
end
def Xk(d:Ez):Prop:=d.Kept.length<=1000000/\(∀r,r ∈ d.Kept->r.length<=1000000)/\d.Wait.length<=1000000/\(∀x,x ∈ d.Wait->x.Row.length<=1000000)
theorem Pj{d:Ez}(h:Fu d=true):Xk d:=by
 simp only[Fu,Bool.and_eq_true,decide_eq_true_eq,List.all_eq_true] at h
 obtain⟨⟨_,h1,h2⟩,h3,h4⟩:=h
 refine⟨by omega,fun r hr=>?_,by omega,fun x hx=>?_⟩
 .
  have:=h3 r hr;simp only[Ik,Bool.and_eq_true,decide_eq_true_eq] at this;omega
 have:=h4 x hx;simp only[Ko,Ik,Bool.and_eq_true,decide_eq_true_eq] at this;omega
theorem Bi.far{B n X i:Nat}{e e1:TypeId}{w:World}{v:Value}{rows:List Gn}{ss:List Value}(h:Bi B e e1 n w v rows ss)(hX:X<B)(u:Value):Bi B e e1 n (w.setCell ⟨X,i,none⟩ u) v rows ss:=h.keep ((Chg.refl B w).setLow hX u)
theorem Bi.ne{B n X:Nat}{e e1:TypeId}{w:World}{v:Value}{rows:List Gn}{ss:List Value}(h:Bi B e e1 n w v rows ss)(hX:X<B):some X≠v.ownBlock:=fun e=>by
 have:=(Own.lt h.2.2.1 e.symm).1;omega
theorem hZ(w:World)(Dl:Value)(Ad:List (List Int))(Fe:Value)(Am:List Eb)(Dk:Ck 0 w Dl (Ac Ad))(Ev:Ck 1 w Fe (Ah Am))(e0:Xk ⟨Ad,Am⟩):Calls Tryz.prog 424 #[.agg #[Dl,Fe]] w (Ret w fun r0 w'=>Ee w.heap.size w' r0 (⟨Ad,Am⟩:Ez)):=by
 obtain⟨a0,cap0,rfl,hc0,hm0,ha0⟩:=Ck.rows Dk
 obtain⟨a1,cap1,rfl,hc1,hm1,ha1⟩:=Ck.writes Ev
 have HA:=Lib.hid ha0;have HB:=Lib.hid ha1
 obtain⟨es0,es1,es2,es3⟩:=e0
 simp only[] at es0 es1 es2 es3
 have HE:=Lib.hid es1;have HF:=Lib.hid es3
 clear ha0 ha1 es1 es3
 unfold maxLen at hm0 hm1
 obtain⟨i0,hi,hz0,hz1,hz2⟩:=info_parts Ol
 obtain⟨j0,hj,hy0,hy1,hy2⟩:=info_parts Rz
 obtain⟨W0,hW0⟩:∃W0,W0=(w.alloc (.cells #[.slice a0 Ad.length cap0,.slice a1 Am.length cap1] 70)).alloc (.cells #[.slice none 0 0,.slice none 0 0] 70):=⟨_,rfl⟩
 have hE0:Ext w W0:=by rw[hW0];exact((Ext.refl _).alloc _).alloc _
 have hs0:W0.heap.size=w.heap.size+1+1:=by rw[hW0];simp
 have R0:Blk W0 (w.heap.size+1) 70 #[.slice none 0 0,.slice none 0 0]:=by rw[hW0];exact Blk.new2 _ _ _ _
 have I0:W0.cell? ⟨w.heap.size,0,none⟩=some (.slice a0 Ad.length cap0):=by rw[hW0];simp
 have I1:W0.cell? ⟨w.heap.size,1,none⟩=some (.slice a1 Am.length cap1):=by rw[hW0];simp
 go_enter Tryz.func424,Tryz.ntmps424
 go_wp2
 rw[<-hW0]
 obtain⟨X,hX⟩:∃X,X=w.heap.size+1+1:=⟨_,rfl⟩
 rw[<-hX] at hs0
 have hK0:Blk (W0.alloc (.cells #[.slice none 0 0,.slice none 0 0] 70)) X 70 #[.slice none 0 0,.slice none 0 0]:=by rw[<-hs0];exact Blk.new _ _ _
 have hE1:Ext W0 (W0.alloc (.cells #[.slice none 0 0,.slice none 0 0] 70)):=(Ext.refl _).alloc _
 have hX1:(W0.alloc (.cells #[.slice none 0 0,.slice none 0 0] 70)).heap.size=X+1:=by simp[hs0]
 generalize W0.alloc (.cells #[.slice none 0 0,.slice none 0 0] 70)=W1 at hK0 hE1 hX1
 clear hW0
 simp only[<-hX]
 have hXa:w.heap.size+1<X:=by omega
 have HX:=Lib.hid hX
 clear hX
 go_loopw [4] (fun i wr=>∃k:Nat,k<=Ad.length/\i=.int .i64 k/\Ext W0 wr/\X<wr.heap.size/\∃(v0:Value) (ss:List Value),Blk wr X 70 #[v0,.slice none 0 0]/\Bi (X+1) 62 2 0 wr v0 (Ac (Ad.take k)) ss) (fun i _=>Ad.length - (intOf i).toNat)
 case atStart=>exact⟨0,Nat.zero_le _,rfl,hE1,by omega,_,[],hK0,by simpa[Ac] using Bi.nil _ _ _ _ _⟩
 case round =>
  obtain⟨k,hk,rfl,he,hXw,v0,ss,hK,hown⟩:=hrel
  obtain⟨oa,on,oc,rfl⟩:=hown.nest.shape
  have hln:(Ac (Ad.take k)).length=k:=by simp[Ac];omega
  have HLN:=Lib.hid hln
  have hsz1:=he.size
  have p0:=he.cell I0
  have p1:=he.cell I1
  have CK:=hK.cell
  have FK:=hK.frozen
  have HO:=Lib.hid hown
  by_cases hlt:k<Ad.length
  .
   obtain⟨r,b1,o1,sa,sn,sc,hr,rfl,hb1,c0,hin⟩:=HA.out k hlt
   have d0:=(hE0.trans he).cell c0
   have hin':=hin.ext (hE0.trans he)
   have HR:=Lib.hid hr
   have hrl:=HE.out r (List.mem_of_getElem? hr)
   clear hr c0 hown hln hin
   go_wp2_with fail
   go_region_law (first|(go_simp;go_at_call 422;refine(Ln _ _ _ (hin'.ext xT) hrl).mono ?_;rintro e w1 ⟨_,rfl,hx1,g1⟩;obtain⟨ta,tn,tc,rfl⟩:=g1.shape;have hsz2:wr.heap.size<=w1.heap.size:=hx1.size;have hsz3:wr.drew.heap.size=wr.heap.size:=rfl;obtain⟨hc1,hf1⟩:=hx1.cells;have hXw1:X<w1.heap.size:=oM;have KW1:Blk w1 X 70 _:=hK.ext xT;have CKW1:=KW1.cell;have FKW1:=KW1.frozen)|(refine Ys (n:=0) (r:=([],r)) rfl (.tmp 15) (.tmp 22) 22 rfl i0 _ 24 Tryz.underlying22 hi hz0 hz1 hz2 rfl rfl (HO.out.ext xT) _ rfl _ (by exact Blk.new _ _ _) rfl rfl (g1.ext xT) oM (fun k hk=>(HO.out.foot k hk).2) 1000001 (by have:=HLN.out;omega) (by unfold maxLen;omega) oM (by simp;omega) ?_;intro g cp wa hown1 hga hxa hua;have KA:=(((hK.ext (xT:Ext wr w1))).alloc _).grown hga (HO.out.ne oM);have CKA:=KA.cell;have FKA:=KA.frozen))
   all_goals
    go_wp2_with fail
    go_roundw
    case rel =>
     refine⟨k+1,by omega,by go_num,Ext.setCell (hxa W0 xT oM) oM _,?_,.slice (some ⟨g,0,none⟩) ((Ac (Ad.take k)).length+1) cp,ss++[.slice ta tn tc],?_,?_⟩
     .
      have:=hga.size;simp only[World.size_setCell,World.size_alloc] at this ⊢;omega
     .
      have:=KA.set_ 0 (.slice (some ⟨g,0,none⟩) ((Ac (Ad.take k)).length+1) cp);simpa using this
     rw[Ic HR.out,Zr];exact hown1.far oM _
    case measure=>simp[intOf];omega
  obtain rfl:k=Ad.length:=by omega
  rw[List.take_length] at HO
  clear hown hln
  go_wp2_with fail
  have hB2:=HO.out.foot
  obtain⟨W2,hW2⟩:∃W2,W2=wr:=⟨_,rfl⟩
  have hU0:Upd W2 wr [X]:=by rw[hW2];exact Upd.refl _ _
  have hX2:X<W2.heap.size:=by rw[hW2];exact hXw
  have HO2:Hid (Bi (X+1) 62 2 0 W2 (.slice oa on oc) (Ac Ad) ss):=by rw[hW2];exact HO
  rw[<-hW2] at hB2
  have hWs:W2.heap.size<=wr.heap.size:=by rw[hW2];exact Nat.le_refl _
  have hWt:W0.heap.size<=W2.heap.size:=by omega
  clear HO hW2 p0 p1 CK FK HLN
  go_loopw [5] (fun i wq=>∃k:Nat,k<=Am.length/\i=.int .i64 k/\Ext W0 wq/\Upd W2 wq [X]/\∃(v1:Value) (ss1:List Value),Blk wq X 70 #[.slice oa on oc,v1]/\Bi W2.heap.size 312 2 1 wq v1 (Ah (Am.take k)) ss1) (fun i _=>Am.length - (intOf i).toNat)
  case atStart=>exact⟨0,Nat.zero_le _,rfl,he,hU0,_,[],hK,by simpa[Ah] using Bi.nil _ _ _ _ _⟩
  case round =>
   clear hsz1 hWs hXw
   obtain⟨k,hk,rfl,he,hU,v1,ss1,hK,hown⟩:=hrel
   obtain⟨pa,pn,pc,rfl⟩:=hown.nest.shape
   have hln:(Ah (Am.take k)).length=k:=by simp[Ah];omega
   have HLN:=Lib.hid hln
   have hsz1:=he.size
   have hsz4:=hU.size
   have p1:=he.cell I1
   have CK:=hK.cell
   have FK:=hK.frozen
   have HP:=Lib.hid hown
   by_cases hlt:k<Am.length
   .
    obtain⟨d,b1,o1,sa,sn,sc,hr,rfl,hb1,c0,c1,hin⟩:=HB.out k hlt
    have q0:=hE0.cell c0
    have q1:=hE0.cell c1
    have d0:=he.cell q0
    have d1:=he.cell q1
    have hin':=hin.ext (hE0.trans he)
    have HR:=Lib.hid hr
    have hrl:=HF.out d (List.mem_of_getElem? hr)
    clear hr c0 c1 hown hln hin
    go_wp2_with fail
    refine wp_region_held_drew (S:=(fun w'=>w'.cell? ⟨w.heap.size,1,none⟩=some (.slice (some ⟨b1,o1,none⟩) Am.length cap1)/\w'.cell? ⟨b1,o1+k*2,none⟩=some (.int .i64 d.At)/\w'.cell? ⟨b1,o1+k*2+1,none⟩=some (.slice sa sn sc))) (by kernel_rfl) (by(try dsimp only);first|(refine⟨Ext.cell (w:=W0) ?_ I1,Ext.cell (w:=W0) ?_ q0,Ext.cell (w:=W0) ?_ q1⟩ <;> exact xT)) (fun hHeld=>?_)
    refine wt 0 ?_
    (try simp only[Ab,Act.put])
    refine wt 2 ?_
    (try simp only[Ab,Act.put])
    refine wt 3 ?_
    (try simp only[Ab,Act.put])
    refine wt 4 ?_
    (try simp only[Ab,Act.put])
    refine wt 5 ?_
    (try simp only[Ab,Act.put])
    refine wt 6 ?_
    (try simp only[Ab,Act.put])
    refine wt 7 ?_
    (try simp only[Ab,Act.put])
    refine wt 8 ?_
    (try simp only[Ab,Act.put])
    refine wt 9 ?_
    (try simp only[Ab,Act.put])
    refine wt 10 ?_
    (try simp only[Ab,Act.put])
    refine wt 11 ?_
    (try simp only[Ab,Act.put])
    refine wt 12 ?_
    (try simp only[Ab,Act.put])
    refine wt 13 ?_
    (try simp only[Ab,Act.put])
    refine wr2 1 14 (fun Kz hKz=>?_) fun Kz hKz=>?_
    .
     (try simp only[Ab])
     go_simp
     refine hKz.out _ _ (by(try dsimp only);first|(refine⟨Ext.cell (w:=W0) ?_ I1,Ext.cell (w:=W0) ?_ q0,Ext.cell (w:=W0) ?_ q1⟩ <;> exact xT)) (fun hHeld=>?_)
     clear hKz Kz
     (try simp only[Ab,Act.put])
     refine wr1 14 fun Kz hKz=>?_
     (try simp only[Ab])
     go_simp
     (go_at_call 422;refine(Ln _ _ _ (hin'.ext xT) hrl).mono ?_;rintro e w1 ⟨_,rfl,hx1,g1⟩;obtain⟨ta,tn,tc,rfl⟩:=g1.shape;have hsz2:wr.heap.size<=w1.heap.size:=hx1.size;have hsz3:wr.drew.heap.size=wr.heap.size:=rfl;obtain⟨hc1,hf1⟩:=hx1.cells;have hXw1:X<w1.heap.size:=oM;have KW1:Blk w1 X 70 _:=hK.ext xT;have CKW1:=KW1.cell;have FKW1:=KW1.frozen)
     refine hKz.out _ _ (by(try dsimp only);first|(refine⟨Ext.cell (w:=W0) ?_ I1,Ext.cell (w:=W0) ?_ q0,Ext.cell (w:=W0) ?_ q1⟩ <;> exact xT)) (fun hHeld=>?_)
     clear hKz Kz
     (try simp only[Ab,Act.put])
     refine wt 15 ?_
     (try simp only[Ab,Act.put])
     refine wr1 16 fun Kz hKz=>?_
     (try simp only[Ab])
     go_simp
     refine hKz.out _ _ (by(try dsimp only);first|(refine⟨Ext.cell (w:=W0) ?_ I1,Ext.cell (w:=W0) ?_ q0,Ext.cell (w:=W0) ?_ q1⟩ <;> exact xT)) (fun hHeld=>?_)
     clear hKz Kz
     (try simp only[Ab,Act.put])
     refine wr1 17 fun Kz hKz=>?_
     (try simp only[Ab])
     (rw[if_pos (by rfl)];refine Eu (n:=1) (r:=([d.At],d.Row)) (.tmp 33) (.tmp 48) 68 (by rfl) j0 _ 32 Tryz.underlying68 hj hy0 hy1 hy2 rfl (by rfl) (HP.out.ext xT) _ (by rfl) _ (by exact Blk.new _ _ _) (by rfl) rfl (g1.ext xT) oM (fun k hk=>(HP.out.foot k hk).2) 1000001 (by have:=HLN.out;omega) (by unfold maxLen;omega) oM (by simp;omega) ?_;intro g cp wa hown1 hga hxa hua;have KA:=(((hK.ext (xT:Ext wr w1))).alloc _).grown hga (HP.out.ne oM);have CKA:=KA.cell;have FKA:=KA.frozen;have hxw0:=hxa W0 xT oM)
     refine hKz.out _ _ (by(try dsimp only);first|(refine⟨Ext.cell (w:=W0) ?_ I1,Ext.cell (w:=W0) ?_ q0,Ext.cell (w:=W0) ?_ q1⟩ <;> exact xT)) (fun hHeld=>?_)
     clear hKz Kz
     (try simp only[Ab,Act.put])
     refine wt 18 ?_
     (try simp only[Ab,Act.put])
     refine wr1 19 fun Kz hKz=>?_
     (try simp only[Ab])
     go_simp
     refine hKz.out _ _ (by(try dsimp only);first|(refine⟨Ext.cell (w:=W0) ?_ I1,Ext.cell (w:=W0) ?_ q0,Ext.cell (w:=W0) ?_ q1⟩ <;> exact xT)) (fun hHeld=>?_)
     clear hKz Kz
     (try simp only[Ab,Act.put])
     refine wpAnyH_done (by kernel_rfl) ?_ _
     go_wp2_with fail
     go_roundw
     case rel =>
      refine⟨k+1,by omega,by go_num,Ext.setCell hxw0 oM _,(hua W2 [X] (by first|exact(hU.ext hx1).alloc _|exact((hU.ext ((Ext.refl _).drew)).ext hx1).alloc _) (Nat.le_refl _)).setCell (by simp) _,.slice (some ⟨g,0,none⟩) ((Ah (Am.take k)).length+1) cp,ss1++[.slice ta tn tc],?_,?_⟩
      .
       have:=KA.set_ 1 (.slice (some ⟨g,0,none⟩) ((Ah (Am.take k)).length+1) cp);simpa using this
      rw[Ic HR.out,Ih];exact hown1.far oM _
     case measure=>simp[intOf];omega
    (try simp only[Ab])
    go_simp
    (go_at_call 422;refine(Ln _ _ _ (hin'.ext xT) hrl).mono ?_;rintro e w1 ⟨_,rfl,hx1,g1⟩;obtain⟨ta,tn,tc,rfl⟩:=g1.shape;have hsz2:wr.heap.size<=w1.heap.size:=hx1.size;have hsz3:wr.drew.heap.size=wr.heap.size:=rfl;obtain⟨hc1,hf1⟩:=hx1.cells;have hXw1:X<w1.heap.size:=oM;have KW1:Blk w1 X 70 _:=hK.ext xT;have CKW1:=KW1.cell;have FKW1:=KW1.frozen)
    refine hKz.out _ _ (by(try dsimp only);first|(refine⟨Ext.cell (w:=W0) ?_ I1,Ext.cell (w:=W0) ?_ q0,Ext.cell (w:=W0) ?_ q1⟩ <;> exact xT)) (fun hHeld=>?_)
    clear hKz Kz
    (try simp only[Ab,Act.put])
    refine wt 15 ?_
    (try simp only[Ab,Act.put])
    refine wr2 1 16 (fun Kz hKz=>?_) fun Kz hKz=>?_
    .
     (try simp only[Ab])
     go_simp
     refine hKz.out _ _ (by(try dsimp only);first|(refine⟨Ext.cell (w:=W0) ?_ I1,Ext.cell (w:=W0) ?_ q0,Ext.cell (w:=W0) ?_ q1⟩ <;> exact xT)) (fun hHeld=>?_)
     clear hKz Kz
     (try simp only[Ab,Act.put])
     refine wr1 16 fun Kz hKz=>?_
     (try simp only[Ab])
     go_simp
     refine hKz.out _ _ (by(try dsimp only);first|(refine⟨Ext.cell (w:=W0) ?_ I1,Ext.cell (w:=W0) ?_ q0,Ext.cell (w:=W0) ?_ q1⟩ <;> exact xT)) (fun hHeld=>?_)
     clear hKz Kz
     (try simp only[Ab,Act.put])
     refine wr1 17 fun Kz hKz=>?_
     (try simp only[Ab])
     (rw[if_pos (by rfl)];refine Eu (n:=1) (r:=([d.At],d.Row)) (.tmp 33) (.tmp 48) 68 (by rfl) j0 _ 32 Tryz.underlying68 hj hy0 hy1 hy2 rfl (by rfl) (HP.out.ext xT) _ (by rfl) _ (by exact Blk.new _ _ _) (by rfl) rfl (g1.ext xT) oM (fun k hk=>(HP.out.foot k hk).2) 1000001 (by have:=HLN.out;omega) (by unfold maxLen;omega) oM (by simp;omega) ?_;intro g cp wa hown1 hga hxa hua;have KA:=(((hK.ext (xT:Ext wr w1))).alloc _).grown hga (HP.out.ne oM);have CKA:=KA.cell;have FKA:=KA.frozen;have hxw0:=hxa W0 xT oM)
     refine hKz.out _ _ (by(try dsimp only);first|(refine⟨Ext.cell (w:=W0) ?_ I1,Ext.cell (w:=W0) ?_ q0,Ext.cell (w:=W0) ?_ q1⟩ <;> exact xT)) (fun hHeld=>?_)
     clear hKz Kz
     (try simp only[Ab,Act.put])
     refine wt 18 ?_
     (try simp only[Ab,Act.put])
     refine wr1 19 fun Kz hKz=>?_
     (try simp only[Ab])
     go_simp
     refine hKz.out _ _ (by(try dsimp only);first|(refine⟨Ext.cell (w:=W0) ?_ I1,Ext.cell (w:=W0) ?_ q0,Ext.cell (w:=W0) ?_ q1⟩ <;> exact xT)) (fun hHeld=>?_)
     clear hKz Kz
     (try simp only[Ab,Act.put])
     refine wpAnyH_done (by kernel_rfl) ?_ _
     go_wp2_with fail
     go_roundw
     case rel =>
      refine⟨k+1,by omega,by go_num,Ext.setCell hxw0 oM _,(hua W2 [X] (by first|exact(hU.ext hx1).alloc _|exact((hU.ext ((Ext.refl _).drew)).ext hx1).alloc _) (Nat.le_refl _)).setCell (by simp) _,.slice (some ⟨g,0,none⟩) ((Ah (Am.take k)).length+1) cp,ss1++[.slice ta tn tc],?_,?_⟩
      .
       have:=KA.set_ 1 (.slice (some ⟨g,0,none⟩) ((Ah (Am.take k)).length+1) cp);simpa using this
      rw[Ic HR.out,Ih];exact hown1.far oM _
     case measure=>simp[intOf];omega
    (try simp only[Ab])
    go_simp
    refine hKz.out _ _ (by(try dsimp only);first|(refine⟨Ext.cell (w:=W0) ?_ I1,Ext.cell (w:=W0) ?_ q0,Ext.cell (w:=W0) ?_ q1⟩ <;> exact xT)) (fun hHeld=>?_)
    clear hKz Kz
    (try simp only[Ab,Act.put])
    refine wr1 1 fun Kz hKz=>?_
    (try simp only[Ab])
    go_simp
    refine hKz.out _ _ (by(try dsimp only);first|(refine⟨Ext.cell (w:=W0) ?_ I1,Ext.cell (w:=W0) ?_ q0,Ext.cell (w:=W0) ?_ q1⟩ <;> exact xT)) (fun hHeld=>?_)
    clear hKz Kz
    (try simp only[Ab,Act.put])
    refine wr1 17 fun Kz hKz=>?_
    (try simp only[Ab])
    (rw[if_pos (by rfl)];refine Eu (n:=1) (r:=([d.At],d.Row)) (.tmp 33) (.tmp 48) 68 (by rfl) j0 _ 32 Tryz.underlying68 hj hy0 hy1 hy2 rfl (by rfl) (HP.out.ext xT) _ (by rfl) _ (by exact Blk.new _ _ _) (by rfl) rfl (g1.ext xT) oM (fun k hk=>(HP.out.foot k hk).2) 1000001 (by have:=HLN.out;omega) (by unfold maxLen;omega) oM (by simp;omega) ?_;intro g cp wa hown1 hga hxa hua;have KA:=(((hK.ext (xT:Ext wr w1))).alloc _).grown hga (HP.out.ne oM);have CKA:=KA.cell;have FKA:=KA.frozen;have hxw0:=hxa W0 xT oM)
    refine hKz.out _ _ (by(try dsimp only);first|(refine⟨Ext.cell (w:=W0) ?_ I1,Ext.cell (w:=W0) ?_ q0,Ext.cell (w:=W0) ?_ q1⟩ <;> exact xT)) (fun hHeld=>?_)
    clear hKz Kz
    (try simp only[Ab,Act.put])
    refine wt 18 ?_
    (try simp only[Ab,Act.put])
    refine wr1 19 fun Kz hKz=>?_
    (try simp only[Ab])
    go_simp
    refine hKz.out _ _ (by(try dsimp only);first|(refine⟨Ext.cell (w:=W0) ?_ I1,Ext.cell (w:=W0) ?_ q0,Ext.cell (w:=W0) ?_ q1⟩ <;> exact xT)) (fun hHeld=>?_)
    clear hKz Kz
    (try simp only[Ab,Act.put])
    refine wpAnyH_done (by kernel_rfl) ?_ _
    go_wp2_with fail
    go_roundw
    case rel =>
     refine⟨k+1,by omega,by go_num,Ext.setCell hxw0 oM _,(hua W2 [X] (by first|exact(hU.ext hx1).alloc _|exact((hU.ext ((Ext.refl _).drew)).ext hx1).alloc _) (Nat.le_refl _)).setCell (by simp) _,.slice (some ⟨g,0,none⟩) ((Ah (Am.take k)).length+1) cp,ss1++[.slice ta tn tc],?_,?_⟩
     .
      have:=KA.set_ 1 (.slice (some ⟨g,0,none⟩) ((Ah (Am.take k)).length+1) cp);simpa using this
     rw[Ic HR.out,Ih];exact hown1.far oM _
    case measure=>simp[intOf];omega
   obtain rfl:k=Am.length:=by omega
   rw[List.take_length] at HP
   have KR:=R0.ext he
   have CR:=KR.cell
   have FR:=KR.frozen
   clear hown hln
   go_wp2_with fail
   refine bodyPost_ret (by simp[results,Tryz.results424,go_sem, *];try rfl) rfl ?_
   refine⟨_,rfl,?_,_,_,ss,ss1,rfl,?_,?_,?_⟩
   .
    exact Ext.setCell (Ext.setCell (hE0.trans he) oM _) oM _
   .
    exact(((HO2.out.upd hU (fun k h1 h2=>by have:=(HO2.out.foot k h1).1;simp at h2;omega)).far oM _).far oM _).mono oM
   .
    exact((HP.out.far oM _).far oM _).mono oM
   intro k h1 h2
   have:=(HP.out.foot k h2).1
   have:=(hB2 k h1).2
   omega
theorem Zx(w:World)(Dl:Value)(Ad:List (List Int))(Fe:Value)(Am:List Eb)(Dk:Ck 0 w Dl (Ac Ad))(Ev:Ck 1 w Fe (Ah Am))(e0:Xk ⟨Ad,Am⟩):Calls Tryz.prog 421 #[.agg #[Dl,Fe]] w (Ret w fun r0 w'=>Ee w.heap.size w' r0 (⟨Ad,Am⟩:Ez)):=by
 obtain⟨a0,cap0,rfl,hc0,hm0,ha0⟩:=Ck.rows Dk
 obtain⟨a1,cap1,rfl,hc1,hm1,ha1⟩:=Ck.writes Ev
 have HA:=Lib.hid ha0;have HB:=Lib.hid ha1
 obtain⟨es0,es1,es2,es3⟩:=e0
 simp only[] at es0 es1 es2 es3
 have HE:=Lib.hid es1;have HF:=Lib.hid es3
 clear ha0 ha1 es1 es3
 unfold maxLen at hm0 hm1
 obtain⟨i0,hi,hz0,hz1,hz2⟩:=info_parts Ol
 obtain⟨j0,hj,hy0,hy1,hy2⟩:=info_parts Rz
 obtain⟨W0,hW0⟩:∃W0,W0=(w.alloc (.cells #[.slice a0 Ad.length cap0,.slice a1 Am.length cap1] 70)).alloc (.cells #[.slice none 0 0,.slice none 0 0] 70):=⟨_,rfl⟩
 have hE0:Ext w W0:=by rw[hW0];exact((Ext.refl _).alloc _).alloc _
 have hs0:W0.heap.size=w.heap.size+1+1:=by rw[hW0];simp
 have R0:Blk W0 (w.heap.size+1) 70 #[.slice none 0 0,.slice none 0 0]:=by rw[hW0];exact Blk.new2 _ _ _ _
 have I0:W0.cell? ⟨w.heap.size,0,none⟩=some (.slice a0 Ad.length cap0):=by rw[hW0];simp
 have I1:W0.cell? ⟨w.heap.size,1,none⟩=some (.slice a1 Am.length cap1):=by rw[hW0];simp
 go_enter Tryz.func421,Tryz.ntmps421
 go_wp2_with fail
 rw[<-hW0]
 refine(kD _ _ Ad (Dk.ext hE0) es0 HE.out).mono ?_
 rintro e w1⟨_,rfl,hx1,ss,hown0⟩
 obtain⟨oa,on,oc,rfl⟩:=hown0.nest.shape
 obtain⟨X,hX⟩:∃X,X=w1.heap.size:=⟨_,rfl⟩
 have hK0:Blk (w1.alloc (.cells #[.slice oa on oc,.slice none 0 0] 70)) X 70 #[.slice oa on oc,.slice none 0 0]:=by rw[hX];exact Blk.new _ _ _
 have hE1:Ext W0 (w1.alloc (.cells #[.slice oa on oc,.slice none 0 0] 70)):=hx1.alloc _
 have hO0:=Lib.hid (hown0.ext ((Ext.refl w1).alloc (.cells #[.slice oa on oc,.slice none 0 0] 70)))
 have hX1:(w1.alloc (.cells #[.slice oa on oc,.slice none 0 0] 70)).heap.size=X+1:=by simp[hX]
 have hXa:W0.heap.size<=X:=by rw[hX];exact hx1.size
 have hfe:∀f,f ∈ Be (.slice oa on oc::ss)->W0.heap.size<=f/\f<X:=by rw[hX];exact hown0.foot
 have p1:=hx1.cell I1
 have hw1:w.heap.size<w1.heap.size:=by have:=hx1.size;omega
 have hw2:w.heap.size+1<w1.heap.size:=by have:=hx1.size;omega
 have HX:=Lib.hid hX
 clear hown0 hx1 hW0 hX
 go_wp2_with fail
 rw[<-HX.out]
 rw[<-HX.out] at hw1 hw2
 obtain⟨W2,hW2⟩:∃W2,W2=w1.alloc (.cells #[.slice oa on oc,.slice none 0 0] 70):=⟨_,rfl⟩
 rw[<-hW2] at hK0 hE1 hO0 hX1 ⊢
 clear hW2 p1 HX
 go_loopw [13] (fun i wr=>∃k:Nat,k<=Am.length/\i=.int .i64 k/\Ext W0 wr/\Upd W2 wr [X]/\∃(v1:Value) (ss1:List Value),Blk wr X 70 #[.slice oa on oc,v1]/\Bi W2.heap.size 312 2 1 wr v1 (Ah (Am.take k)) ss1) (fun i _=>Am.length - (intOf i).toNat)
 case atStart=>exact⟨0,Nat.zero_le _,rfl,hE1,Upd.refl _ _,_,[],hK0,by simpa[Ah] using Bi.nil _ _ _ _ _⟩
 case round =>
  obtain⟨k,hk,rfl,he,hU,v1,ss1,hK,hown⟩:=hrel
  obtain⟨pa,pn,pc,rfl⟩:=hown.nest.shape
  have hln:(Ah (Am.take k)).length=k:=by simp[Ah];omega
  have HLN:=Lib.hid hln
  have hsz1:=he.size
  have hsz4:=hU.size
  have p1:=he.cell I1
  by_cases hlt:k<Am.length
  .
   obtain⟨d,b1,o1,sa,sn,sc,hr,rfl,hb1,c0,c1,hin⟩:=HB.out k hlt
   have q0:=hE0.cell c0
   have q1:=hE0.cell c1
   have d0:=he.cell q0
   have d1:=he.cell q1
   obtain⟨wq,hwq⟩:∃wq,wq=wr.alloc (.cells #[.int .i64 d.At,.slice sa sn sc] 312):=⟨_,rfl⟩
   have hEq:Ext wr wq:=by rw[hwq];exact(Ext.refl _).alloc _
   have hsq:wq.heap.size=wr.heap.size+1:=by rw[hwq];simp
   have hBq:Blk wq wr.heap.size 312 #[.int .i64 d.At,.slice sa sn sc]:=by rw[hwq];exact Blk.new _ _ _
   have hE9:Ext W0 wq:=he.trans hEq
   have hin':=hin.ext (hE0.trans hE9)
   have HR:=Lib.hid hr
   have hrl:=HF.out d (List.mem_of_getElem? hr)
   have HP:=Lib.hid (hown.ext hEq)
   have hneY:some wr.heap.size≠(Value.slice pa pn pc).ownBlock:=fun e=>by have:=(Own.lt hown.2.2.1 e.symm).2;omega
   have HW:=Lib.hid hwq
   clear hr c0 c1 hown hln hin hwq
   go_wp2_with fail
   rw[<-HW.out]
   have hKq:=hK.ext hEq
   have hXq:X<wr.heap.size:=hK.lt
   have hUq:=hU.ext hEq
   clear hK hEq HW d0 d1 hU he
   have hsr:wr.heap.size<wq.heap.size:=by omega
   obtain⟨Y,hY⟩:∃Y,Y=wr.heap.size:=⟨_,rfl⟩
   rw[<-hY] at hBq hXq hsr hsq hsz1 hsz4 hneY
   simp only[<-hY]
   clear hY hsq
   have CK:=hKq.cell
   have FK:=hKq.frozen
   have CB:=hBq.cell
   refine wp_region_held_drew (S:=(fun w'=>w'.cell? ⟨Y,0,none⟩=some (.int .i64 d.At)/\w'.cell? ⟨Y,1,none⟩=some (.slice sa sn sc))) (by kernel_rfl) (by(try dsimp only);first|(refine⟨((hBq.ext ?_).cell 0).trans (by simp),((hBq.ext ?_).cell 1).trans (by simp)⟩ <;> (exact xT);done)|exact⟨(KB.cell 0).trans (by simp),(KB.cell 1).trans (by simp)⟩|exact⟨((KB.far (by simp;omega) _).cell 0).trans (by simp),((KB.far (by simp;omega) _).cell 1).trans (by simp)⟩) (fun hHeld=>?_)
   refine wt 0 ?_
   (try simp only[Ab,Act.put])
   refine wt 2 ?_
   (try simp only[Ab,Act.put])
   refine wt 3 ?_
   (try simp only[Ab,Act.put])
   refine wt 4 ?_
   (try simp only[Ab,Act.put])
   refine wt 5 ?_
   (try simp only[Ab,Act.put])
   refine wr2 1 6 (fun Kz hKz=>?_) fun Kz hKz=>?_
   .
    (try simp only[Ab])
    go_simp
    refine hKz.out _ _ (by(try dsimp only);first|(refine⟨((hBq.ext ?_).cell 0).trans (by simp),((hBq.ext ?_).cell 1).trans (by simp)⟩ <;> (exact xT);done)|exact⟨(KB.cell 0).trans (by simp),(KB.cell 1).trans (by simp)⟩|exact⟨((KB.far (by simp;omega) _).cell 0).trans (by simp),((KB.far (by simp;omega) _).cell 1).trans (by simp)⟩) (fun hHeld=>?_)
    clear hKz Kz
    (try simp only[Ab,Act.put])
    refine wr1 6 fun Kz hKz=>?_
    (try simp only[Ab])
    go_simp
    (go_at_call 420;refine(Po _ _ _ (hin'.ext xT) hrl).mono ?_;rintro e w1 ⟨_,rfl,hx1,g1⟩;obtain⟨ta,tn,tc,rfl⟩:=g1.shape;have hsz2:wq.heap.size<=w1.heap.size:=hx1.size;have hsz3:wq.drew.heap.size=wq.heap.size:=rfl;obtain⟨hc1,hf1⟩:=hx1.cells;have hXw1:X<w1.heap.size:=oM;have KW1:Blk w1 X 70 _:=hKq.ext xT;have CKW1:=KW1.cell;have FKW1:=KW1.frozen)
    refine hKz.out _ _ (by(try dsimp only);first|(refine⟨((hBq.ext ?_).cell 0).trans (by simp),((hBq.ext ?_).cell 1).trans (by simp)⟩ <;> (exact xT);done)|exact⟨(KB.cell 0).trans (by simp),(KB.cell 1).trans (by simp)⟩|exact⟨((KB.far (by simp;omega) _).cell 0).trans (by simp),((KB.far (by simp;omega) _).cell 1).trans (by simp)⟩) (fun hHeld=>?_)
    clear hKz Kz
    (try simp only[Ab,Act.put])
    refine wt 7 ?_
    (try simp only[Ab,Act.put])
    refine wr1 8 fun Kz hKz=>?_
    (try simp only[Ab])
    go_simp
    refine hKz.out _ _ (by(try dsimp only);first|(refine⟨((hBq.ext ?_).cell 0).trans (by simp),((hBq.ext ?_).cell 1).trans (by simp)⟩ <;> (exact xT);done)|exact⟨(KB.cell 0).trans (by simp),(KB.cell 1).trans (by simp)⟩|exact⟨((KB.far (by simp;omega) _).cell 0).trans (by simp),((KB.far (by simp;omega) _).cell 1).trans (by simp)⟩) (fun hHeld=>?_)
    clear hKz Kz
    (try simp only[Ab,Act.put])
    refine wr1 9 fun Kz hKz=>?_
    (try simp only[Ab])
    (rw[if_pos (by rfl)];refine Eu (n:=1) (r:=([d.At],d.Row)) (.tmp 18) (.tmp 25) 68 (by rfl) j0 _ 32 Tryz.underlying68 hj hy0 hy1 hy2 rfl (by rfl) (HP.out.ext xT) _ (by rfl) _ (by exact Blk.new _ _ _) (by rfl) rfl (g1.ext xT) oM (fun k hk=>(HP.out.foot k hk).2) 1000001 (by have:=HLN.out;omega) (by unfold maxLen;omega) oM (by simp;omega) ?_;intro g cp wa hown1 hga hxa hua;have KA:=(((hKq.ext (xT:Ext wq w1))).alloc _).grown hga (HP.out.ne oM);have KB:=((hBq.ext (xT:Ext wq w1)).alloc _).grown hga hneY;have CKA:=KA.cell;have FKA:=KA.frozen;have hxw0:=hxa W0 xT oM)
    refine hKz.out _ _ (by(try dsimp only);first|(refine⟨((hBq.ext ?_).cell 0).trans (by simp),((hBq.ext ?_).cell 1).trans (by simp)⟩ <;> (exact xT);done)|exact⟨(KB.cell 0).trans (by simp),(KB.cell 1).trans (by simp)⟩|exact⟨((KB.far (by simp;omega) _).cell 0).trans (by simp),((KB.far (by simp;omega) _).cell 1).trans (by simp)⟩) (fun hHeld=>?_)
    clear hKz Kz
    (try simp only[Ab,Act.put])
    refine wt 10 ?_
    (try simp only[Ab,Act.put])
    refine wr1 11 fun Kz hKz=>?_
    (try simp only[Ab])
    go_simp
    refine hKz.out _ _ (by(try dsimp only);first|(refine⟨((hBq.ext ?_).cell 0).trans (by simp),((hBq.ext ?_).cell 1).trans (by simp)⟩ <;> (exact xT);done)|exact⟨(KB.cell 0).trans (by simp),(KB.cell 1).trans (by simp)⟩|exact⟨((KB.far (by simp;omega) _).cell 0).trans (by simp),((KB.far (by simp;omega) _).cell 1).trans (by simp)⟩) (fun hHeld=>?_)
    clear hKz Kz
    (try simp only[Ab,Act.put])
    refine wpAnyH_done (by kernel_rfl) ?_ _
    go_wp2_with fail
    go_roundw
    case rel =>
     refine⟨k+1,by omega,by go_num,Ext.setCell hxw0 oM _,(hua W2 [X] (by first|exact(hUq.ext hx1).alloc _|exact((hUq.ext ((Ext.refl _).drew)).ext hx1).alloc _) (Nat.le_refl _)).setCell (by simp) _,.slice (some ⟨g,0,none⟩) ((Ah (Am.take k)).length+1) cp,ss1++[.slice ta tn tc],?_,?_⟩
     .
      have:=KA.set_ 1 (.slice (some ⟨g,0,none⟩) ((Ah (Am.take k)).length+1) cp);simpa using this
     rw[Ic HR.out,Ih];exact hown1.far oM _
    case measure=>simp[intOf];omega
   (try simp only[Ab])
   go_simp
   (go_at_call 420;refine(Po _ _ _ (hin'.ext xT) hrl).mono ?_;rintro e w1 ⟨_,rfl,hx1,g1⟩;obtain⟨ta,tn,tc,rfl⟩:=g1.shape;have hsz2:wq.heap.size<=w1.heap.size:=hx1.size;have hsz3:wq.drew.heap.size=wq.heap.size:=rfl;obtain⟨hc1,hf1⟩:=hx1.cells;have hXw1:X<w1.heap.size:=oM;have KW1:Blk w1 X 70 _:=hKq.ext xT;have CKW1:=KW1.cell;have FKW1:=KW1.frozen)
   refine hKz.out _ _ (by(try dsimp only);first|(refine⟨((hBq.ext ?_).cell 0).trans (by simp),((hBq.ext ?_).cell 1).trans (by simp)⟩ <;> (exact xT);done)|exact⟨(KB.cell 0).trans (by simp),(KB.cell 1).trans (by simp)⟩|exact⟨((KB.far (by simp;omega) _).cell 0).trans (by simp),((KB.far (by simp;omega) _).cell 1).trans (by simp)⟩) (fun hHeld=>?_)
   clear hKz Kz
   (try simp only[Ab,Act.put])
   refine wt 7 ?_
   (try simp only[Ab,Act.put])
   refine wr2 1 8 (fun Kz hKz=>?_) fun Kz hKz=>?_
   .
    (try simp only[Ab])
    go_simp
    refine hKz.out _ _ (by(try dsimp only);first|(refine⟨((hBq.ext ?_).cell 0).trans (by simp),((hBq.ext ?_).cell 1).trans (by simp)⟩ <;> (exact xT);done)|exact⟨(KB.cell 0).trans (by simp),(KB.cell 1).trans (by simp)⟩|exact⟨((KB.far (by simp;omega) _).cell 0).trans (by simp),((KB.far (by simp;omega) _).cell 1).trans (by simp)⟩) (fun hHeld=>?_)
    clear hKz Kz
    (try simp only[Ab,Act.put])
    refine wr1 8 fun Kz hKz=>?_
    (try simp only[Ab])
    go_simp
    refine hKz.out _ _ (by(try dsimp only);first|(refine⟨((hBq.ext ?_).cell 0).trans (by simp),((hBq.ext ?_).cell 1).trans (by simp)⟩ <;> (exact xT);done)|exact⟨(KB.cell 0).trans (by simp),(KB.cell 1).trans (by simp)⟩|exact⟨((KB.far (by simp;omega) _).cell 0).trans (by simp),((KB.far (by simp;omega) _).cell 1).trans (by simp)⟩) (fun hHeld=>?_)
    clear hKz Kz
    (try simp only[Ab,Act.put])
    refine wr1 9 fun Kz hKz=>?_
    (try simp only[Ab])
    (rw[if_pos (by rfl)];refine Eu (n:=1) (r:=([d.At],d.Row)) (.tmp 18) (.tmp 25) 68 (by rfl) j0 _ 32 Tryz.underlying68 hj hy0 hy1 hy2 rfl (by rfl) (HP.out.ext xT) _ (by rfl) _ (by exact Blk.new _ _ _) (by rfl) rfl (g1.ext xT) oM (fun k hk=>(HP.out.foot k hk).2) 1000001 (by have:=HLN.out;omega) (by unfold maxLen;omega) oM (by simp;omega) ?_;intro g cp wa hown1 hga hxa hua;have KA:=(((hKq.ext (xT:Ext wq w1))).alloc _).grown hga (HP.out.ne oM);have KB:=((hBq.ext (xT:Ext wq w1)).alloc _).grown hga hneY;have CKA:=KA.cell;have FKA:=KA.frozen;have hxw0:=hxa W0 xT oM)
    refine hKz.out _ _ (by(try dsimp only);first|(refine⟨((hBq.ext ?_).cell 0).trans (by simp),((hBq.ext ?_).cell 1).trans (by simp)⟩ <;> (exact xT);done)|exact⟨(KB.cell 0).trans (by simp),(KB.cell 1).trans (by simp)⟩|exact⟨((KB.far (by simp;omega) _).cell 0).trans (by simp),((KB.far (by simp;omega) _).cell 1).trans (by simp)⟩) (fun hHeld=>?_)
    clear hKz Kz
    (try simp only[Ab,Act.put])
    refine wt 10 ?_
    (try simp only[Ab,Act.put])
    refine wr1 11 fun Kz hKz=>?_
    (try simp only[Ab])
    go_simp
    refine hKz.out _ _ (by(try dsimp only);first|(refine⟨((hBq.ext ?_).cell 0).trans (by simp),((hBq.ext ?_).cell 1).trans (by simp)⟩ <;> (exact xT);done)|exact⟨(KB.cell 0).trans (by simp),(KB.cell 1).trans (by simp)⟩|exact⟨((KB.far (by simp;omega) _).cell 0).trans (by simp),((KB.far (by simp;omega) _).cell 1).trans (by simp)⟩) (fun hHeld=>?_)
    clear hKz Kz
    (try simp only[Ab,Act.put])
    refine wpAnyH_done (by kernel_rfl) ?_ _
    go_wp2_with fail
    go_roundw
    case rel =>
     refine⟨k+1,by omega,by go_num,Ext.setCell hxw0 oM _,(hua W2 [X] (by first|exact(hUq.ext hx1).alloc _|exact((hUq.ext ((Ext.refl _).drew)).ext hx1).alloc _) (Nat.le_refl _)).setCell (by simp) _,.slice (some ⟨g,0,none⟩) ((Ah (Am.take k)).length+1) cp,ss1++[.slice ta tn tc],?_,?_⟩
     .
      have:=KA.set_ 1 (.slice (some ⟨g,0,none⟩) ((Ah (Am.take k)).length+1) cp);simpa using this
     rw[Ic HR.out,Ih];exact hown1.far oM _
    case measure=>simp[intOf];omega
   (try simp only[Ab])
   go_simp
   refine hKz.out _ _ (by(try dsimp only);first|(refine⟨((hBq.ext ?_).cell 0).trans (by simp),((hBq.ext ?_).cell 1).trans (by simp)⟩ <;> (exact xT);done)|exact⟨(KB.cell 0).trans (by simp),(KB.cell 1).trans (by simp)⟩|exact⟨((KB.far (by simp;omega) _).cell 0).trans (by simp),((KB.far (by simp;omega) _).cell 1).trans (by simp)⟩) (fun hHeld=>?_)
   clear hKz Kz
   (try simp only[Ab,Act.put])
   refine wr1 1 fun Kz hKz=>?_
   (try simp only[Ab])
   go_simp
   refine hKz.out _ _ (by(try dsimp only);first|(refine⟨((hBq.ext ?_).cell 0).trans (by simp),((hBq.ext ?_).cell 1).trans (by simp)⟩ <;> (exact xT);done)|exact⟨(KB.cell 0).trans (by simp),(KB.cell 1).trans (by simp)⟩|exact⟨((KB.far (by simp;omega) _).cell 0).trans (by simp),((KB.far (by simp;omega) _).cell 1).trans (by simp)⟩) (fun hHeld=>?_)
   clear hKz Kz
   (try simp only[Ab,Act.put])
   refine wr1 9 fun Kz hKz=>?_
   (try simp only[Ab])
   (rw[if_pos (by rfl)];refine Eu (n:=1) (r:=([d.At],d.Row)) (.tmp 18) (.tmp 25) 68 (by rfl) j0 _ 32 Tryz.underlying68 hj hy0 hy1 hy2 rfl (by rfl) (HP.out.ext xT) _ (by rfl) _ (by exact Blk.new _ _ _) (by rfl) rfl (g1.ext xT) oM (fun k hk=>(HP.out.foot k hk).2) 1000001 (by have:=HLN.out;omega) (by unfold maxLen;omega) oM (by simp;omega) ?_;intro g cp wa hown1 hga hxa hua;have KA:=(((hKq.ext (xT:Ext wq w1))).alloc _).grown hga (HP.out.ne oM);have KB:=((hBq.ext (xT:Ext wq w1)).alloc _).grown hga hneY;have CKA:=KA.cell;have FKA:=KA.frozen;have hxw0:=hxa W0 xT oM)
   refine hKz.out _ _ (by(try dsimp only);first|(refine⟨((hBq.ext ?_).cell 0).trans (by simp),((hBq.ext ?_).cell 1).trans (by simp)⟩ <;> (exact xT);done)|exact⟨(KB.cell 0).trans (by simp),(KB.cell 1).trans (by simp)⟩|exact⟨((KB.far (by simp;omega) _).cell 0).trans (by simp),((KB.far (by simp;omega) _).cell 1).trans (by simp)⟩) (fun hHeld=>?_)
   clear hKz Kz
   (try simp only[Ab,Act.put])
   refine wt 10 ?_
   (try simp only[Ab,Act.put])
   refine wr1 11 fun Kz hKz=>?_
   (try simp only[Ab])
   go_simp
   refine hKz.out _ _ (by(try dsimp only);first|(refine⟨((hBq.ext ?_).cell 0).trans (by simp),((hBq.ext ?_).cell 1).trans (by simp)⟩ <;> (exact xT);done)|exact⟨(KB.cell 0).trans (by simp),(KB.cell 1).trans (by simp)⟩|exact⟨((KB.far (by simp;omega) _).cell 0).trans (by simp),((KB.far (by simp;omega) _).cell 1).trans (by simp)⟩) (fun hHeld=>?_)
   clear hKz Kz
   (try simp only[Ab,Act.put])
   refine wpAnyH_done (by kernel_rfl) ?_ _
   go_wp2_with fail
   go_roundw
   case rel =>
    refine⟨k+1,by omega,by go_num,Ext.setCell hxw0 oM _,(hua W2 [X] (by first|exact(hUq.ext hx1).alloc _|exact((hUq.ext ((Ext.refl _).drew)).ext hx1).alloc _) (Nat.le_refl _)).setCell (by simp) _,.slice (some ⟨g,0,none⟩) ((Ah (Am.take k)).length+1) cp,ss1++[.slice ta tn tc],?_,?_⟩
    .
     have:=KA.set_ 1 (.slice (some ⟨g,0,none⟩) ((Ah (Am.take k)).length+1) cp);simpa using this
    rw[Ic HR.out,Ih];exact hown1.far oM _
   case measure=>simp[intOf];omega
  obtain rfl:k=Am.length:=by omega
  rw[List.take_length] at hown
  have HP:=Lib.hid hown
  have KR:=R0.ext he
  have CR:=KR.cell
  have FR:=KR.frozen
  have CK:=hK.cell
  have FK:=hK.frozen
  clear hown hln
  go_wp2_with fail
  refine bodyPost_ret (by simp[results,Tryz.results421,go_sem, *];try rfl) rfl ?_
  refine⟨_,rfl,?_,_,_,ss,ss1,rfl,?_,?_,?_⟩
  .
   exact Ext.setCell (Ext.setCell (hE0.trans he) oM _) oM _
  .
   exact(((hO0.out.upd hU (fun k h1 h2=>by have:=(hfe k h1).2;simp at h2;omega)).keep (((Chg.refl W0.heap.size _).setLow oM _).setLow oM _))).mono oM
  .
   exact((HP.out.far oM _).far oM _).mono oM
  intro k h1 h2
  have:=(HP.out.foot k h2).1
  have:=(hfe k h1).2
  omega
end Go.Proofs.YtkpmbocbbgocbaaGreat
