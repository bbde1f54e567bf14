/- Q5 Q6 Q7 KB. -/
import Derived.Test.YtkpmbocbbgocbaaGreatQGw
import Derived.Test.YtkpmbocbbgocbaaGreatQGu
set_option linter.unusedSimpArgs false
set_option linter.unusedVariables false
set_option maxHeartbeats 8000000
set_option maxRecDepth 100000
namespace Go.Proofs.YtkpmbocbbgocbaaGreat
open Go.RowKit Go.G8
def Ke(all:Bool)(f:Int)(kept:List (List Int))(x:Eb):List (List Int) :=
 if (all||decide (f=1))=true then kept.set x.At.toNat x.Row else if f=2 then kept.set x.At.toNat (Ug x.Row ((kept[x.At.toNat]?).getD [])) else kept
def nP(fates:List Int)(i:Nat):Int:=(fates[i]?).getD 0
def Qd(all:Bool)(fates:List Int)(d:Ez):Nat->List (List Int)
 | 0=>d.Kept
 | k+1=>match d.Wait[k]? with
  | some x=>Ke all (nP fates k) (Qd all fates d k) x
  | none=>Qd all fates d k
def Jf(all:Bool)(fates:List Int)(d:Ez):Ez:=if Fu d then⟨Qd all fates d d.Wait.length,[]⟩ else⟨[],[]⟩
theorem Mp{all:Bool}{fates:List Int}{d:Ez}{k:Nat}{x:Eb}(h:d.Wait[k]?=some x):Qd all fates d (k+1)=Ke all (nP fates k) (Qd all fates d k) x:=by simp[Qd,h]
theorem eP(all:Bool)(f:Int)(kept:List (List Int))(x:Eb):(Ke all f kept x).length=kept.length:=by
 unfold Ke
 split
 .
  simp
 split <;> simp
theorem Lt(all:Bool)(fates:List Int)(d:Ez)(k:Nat):(Qd all fates d k).length=d.Kept.length:=by
 induction k with
 | zero=>rfl
 | succ k ih =>
  unfold Qd
  split
  .
   rw[eP];exact ih
  exact ih
theorem Oo{d:Ez}(h:Fu d=true):(∀r,r ∈ d.Kept->r.length<=48)/\(∀x,x ∈ d.Wait->x.Row.length<=48/\0<=x.At/\x.At<d.Kept.length)/\1<=d.Kept.length/\d.Kept.length<=40/\d.Wait.length<=60:=by
 simp only[Fu,Bool.and_eq_true,decide_eq_true_eq,List.all_eq_true] at h
 obtain⟨⟨h0,h1,h2⟩,h3,h4⟩:=h
 refine⟨fun r hr=>?_,fun x hx=>?_,h0,h1,h2⟩
 .
  have:=h3 r hr;simp only[Ik,Bool.and_eq_true,decide_eq_true_eq] at this;omega
 have:=h4 x hx;simp only[Ko,Ik,Bool.and_eq_true,decide_eq_true_eq,Dz] at this;omega
theorem iC{all:Bool}{f:Int}{kept:List (List Int)}{x:Eb}(h:∀r,r ∈ kept->r.length<=48)(hx:x.Row.length<=48):∀r,r ∈ Ke all f kept x->r.length<=48:=by
 intro r hr
 unfold Ke at hr
 split at hr
 .
  rcases List.mem_or_eq_of_mem_set hr with h1|rfl
  .
   exact h r h1
  exact hx
 split at hr
 .
  rcases List.mem_or_eq_of_mem_set hr with h1|rfl
  .
   exact h r h1
  refine gX hx ?_
  rcases Nat.lt_or_ge x.At.toNat kept.length with h2|h2
  .
   rw[List.getElem?_eq_getElem h2];exact h _ (List.getElem_mem h2)
  rw[List.getElem?_eq_none h2];simp
 exact h r hr
theorem pP{all:Bool}{fates:List Int}{d:Ez}(h:Fu d=true)(k:Nat):∀r,r ∈ Qd all fates d k->r.length<=48:=by
 obtain⟨h1,h2,_⟩:=Oo h
 induction k with
 | zero=>exact h1
 | succ k ih =>
  intro r hr
  unfold Qd at hr
  split at hr
  .
   rename_i x hx
   exact iC ih (h2 x (List.mem_of_getElem? hx)).1 r hr
  exact ih r hr
theorem cY(l:List (List Int))(k:Nat)(r:List Int):Ac (l.set k r)=(Ac l).set k ([],r):=by simp[Ac,List.map_set]
theorem iD{v s:Value}{l:List Value}{i f:Nat}(h:f ∈ Be (v::l.set i s)):f ∈ Be (v::l)\/f ∈ Be [s]:=by
 simp only[Be,List.mem_filterMap] at h ⊢
 obtain⟨x,hx,hf⟩:=h
 rcases List.mem_cons.1 hx with rfl|hx
 .
  exact .inl ⟨x,by simp,hf⟩
 rcases List.mem_or_eq_of_mem_set hx with h1|rfl
 .
  exact .inl ⟨x,by simp[h1],hf⟩
 exact .inr ⟨x,by simp,hf⟩
def Mv(B:Nat)(e e1 e2:TypeId)(w:World)(g n c:Nat)(kept:List (List Int))(v1:Value)(wait:List Eb)(ss1:List Value)(k:Nat):Prop :=
 ∃ss:List Value,Bi B e e1 0 w (.slice (some ⟨g,0,none⟩) n c) (Ac kept) ss/\Bi B e2 e1 1 w v1 (Ah wait) ss1/\g ∉ Be (v1::ss1) /\
  ∀(j:Nat) (s:Value) (f:Nat),k<=j->ss1[j]?=some s->f ∈ Be [s]->f ∈ Be (.slice (some ⟨g,0,none⟩) n c::ss)->False
section
variable {B:Nat} {e e1 e2:TypeId} {w w':World} {g n c:Nat} {kept:List (List Int)} {v1:Value} {wait:List Eb} {ss1:List Value} {k:Nat}
theorem Mv.ext(h:Mv B e e1 e2 w g n c kept v1 wait ss1 k)(x:Ext w w'):Mv B e e1 e2 w' g n c kept v1 wait ss1 k:=by
 obtain⟨ss,h0,h1,hg,hd⟩:=h
 exact⟨ss,h0.ext x,h1.ext x,hg,hd⟩
theorem Mv.keep(h:Mv B e e1 e2 w g n c kept v1 wait ss1 k)(x:Chg B w w'):Mv B e e1 e2 w' g n c kept v1 wait ss1 k:=by
 obtain⟨ss,h0,h1,hg,hd⟩:=h
 exact⟨ss,h0.keep x,h1.keep x,hg,hd⟩
theorem Mv.skip(h:Mv B e e1 e2 w g n c kept v1 wait ss1 k):Mv B e e1 e2 w g n c kept v1 wait ss1 (k+1):=by
 obtain⟨ss,h0,h1,hg,hd⟩:=h
 exact⟨ss,h0,h1,hg,fun j s f hj=>hd j s f oM⟩
theorem Mv.low(h:Mv B e e1 e2 w g n c kept v1 wait ss1 k):B<=g/\g<w.heap.size:=by
 obtain⟨ss,h0,h1,hg,hd⟩:=h
 exact h0.foot g (by simp[Be,Value.ownBlock])
theorem Mv.move(h:Mv B e e1 e2 w g n c kept v1 wait ss1 k){s:Value}(hk:ss1[k]?=some s){d:Eb}(hd:wait[k]?=some d){p:Nat}(hp:p<kept.length):Mv B e e1 e2 (w.setCell ⟨g,p,none⟩ s) g n c (kept.set p d.Row) v1 wait ss1 (k+1):=by
 obtain⟨ss,h0,h1,hg,hdd⟩:=h
 have hr:(Ac kept)[p]?=some ([],kept[p]):=by simp[Ac,hp]
 have hw:(Ah wait)[k]?=some ([d.At],d.Row):=by simp[Ah,hd]
 have ho:Af B e1 1 w s d.Row:=h1.2.2.2.own k s _ hk hw
 have hset:=h0.set_slice hr (t:=s) (xs:=d.Row) ho (fun i u f hi hu hf1 hf2=>hdd k s f (Nat.le_refl _) hk hf2 (Qb hu hf1)) (fun hgs=>hg (Qb hk hgs))
 refine⟨ss.set p s,by rw[cY];simpa using hset,h1.upd (fs:=[g]) ((Upd.refl _ _).setCell (by simp) _) (fun f hf1 hf2=>hg (by simp at hf2;exact hf2 ▸ hf1)),hg,fun j u f hj hu hf1 hf2=>?_⟩
 rcases iD hf2 with h3|h3
 .
  exact hdd j u f oM hu hf1 h3
 exact h1.2.2.2.two k j s u f oM hk hu h3 hf1
theorem Mv.fresh{w0:World}(h:Mv B e e1 e2 w0 g n c kept v1 wait ss1 k)(x:Ext w0 w){s:Value}{xs:List Int}(hs:Af w0.heap.size e1 1 w s xs)(hB:B<=w0.heap.size){p:Nat}(hp:p<kept.length):Mv B e e1 e2 (w.setCell ⟨g,p,none⟩ s) g n c (kept.set p xs) v1 wait ss1 (k+1):=by
 obtain⟨ss,h0,h1,hg,hdd⟩:=h
 have hr:(Ac kept)[p]?=some ([],kept[p]):=by simp[Ac,hp]
 have hfs:∀f,f ∈ Be [s]->w0.heap.size<=f:=by
  intro f hf
  simp only[Be,List.mem_filterMap] at hf
  obtain⟨u,hu,hf⟩:=hf
  simp at hu;subst hu
  exact(Own.lt hs hf).1
 have hset:=(h0.ext x).set_slice hr (t:=s) (xs:=xs) (hs.mono hB) (fun i u f hi hu hf1 hf2=>by
  have:=(h0.foot f (Qb hu hf1)).2;have:=hfs f hf2;omega) (fun hgs=>by
  have:=(h0.foot g (by simp[Be,Value.ownBlock])).2;have:=hfs g hgs;omega)
 refine⟨ss.set p s,by rw[cY];simpa using hset,(h1.ext x).upd (fs:=[g]) ((Upd.refl _ _).setCell (by simp) _) (fun f hf1 hf2=>hg (by simp at hf2;exact hf2 ▸ hf1)),hg,fun j u f hj hu hf1 hf2=>?_⟩
 rcases iD hf2 with h3|h3
 .
  exact hdd j u f oM hu hf1 h3
 have:=(h1.foot f (Qb hu hf1)).2;have:=hfs f h3;omega
theorem Mv.blk(h:Mv B e e1 e2 w g n c kept v1 wait ss1 k)(hp:0<kept.length):∃(cur:Array Value) (ss:List Value),n=kept.length/\Blk w g e cur/\ss.length=kept.length/\∀(i:Nat) (r:List Int) (s:Value),kept[i]?=some r->ss[i]?=some s->cur[i]?=some s/\Af B e1 1 w s r:=by
 obtain⟨ss,h0,h1,hg,hdd⟩:=h
 have hl:(Ac kept).length=kept.length:=by simp[Ac]
 obtain⟨g',cap,cur,hv,h3,h4,h5,hblk,hc⟩:=h0.open_ oM
 injection hv with hv1 hv2 hv3
 injection hv1 with hv1
 injection hv1 with hv1
 subst hv1
 refine⟨cur,ss,by omega,hblk,by rw[h0.2.1,hl],fun i r s hr hs=>?_⟩
 have hr':(Ac kept)[i]?=some ([],r):=by simp[Ac,hr]
 exact⟨by simpa using(hc i _ s hr' hs).2,h0.2.2.2.own i s _ hs hr'⟩
end
theorem pQ(w:World)(Dl:Value)(Ad:List (List Int))(Fe:Value)(Am:List Eb)(rZ:Value)(fates:List Int)(all:Bool)(Dk:Ck 0 w Dl (Ac Ad))(Ev:Ck 1 w Fe (Ah Am))(uE:Aj 1 w rZ fates)(e0:Fu ⟨Ad,Am⟩=true):Calls Tryz.prog 425 #[.agg #[Dl,Fe],rZ,.bool all] w (Ret w fun r0 w'=>Ee w.heap.size w' r0 (⟨Qd all fates ⟨Ad,Am⟩ Am.length,[]⟩:Ez)):=by
 have hsm:=Pj e0
 obtain⟨hr1,hr2,hk1,hk2,hk3⟩:=Oo e0
 simp only[] at hr1 hr2 hk1 hk2 hk3
 obtain⟨a0,cap0,rfl,hc0,hm0,_⟩:=Ck.rows Dk
 obtain⟨a1,cap1,rfl,hc1,hm1,ha1⟩:=Ck.writes Ev
 obtain⟨a2,cap2,rfl,hc2,hm2,ha2⟩:=uE.one
 have HB:=Lib.hid ha1;have HC:=Lib.hid ha2
 have HR2:=Lib.hid hr2
 have HOK:=Lib.hid (pP (all:=all) (fates:=fates) e0)
 clear ha1 ha2 hr1 hr2
 unfold maxLen at hm0 hm1 hm2
 obtain⟨W0,hW0⟩:∃W0,W0=(w.alloc (.cells #[.slice a0 Ad.length cap0,.slice a1 Am.length cap1] 70)).alloc (.cells #[.slice none 0 0,.slice none 0 0] 70):=⟨_,rfl⟩
 have hE0:Ext w W0:=by rw[hW0];exact((Ext.refl _).alloc _).alloc _
 have hs0:W0.heap.size=w.heap.size+1+1:=by rw[hW0];simp
 have R0:Blk W0 (w.heap.size+1) 70 #[.slice none 0 0,.slice none 0 0]:=by rw[hW0];exact Blk.new2 _ _ _ _
 have I0:W0.cell? ⟨w.heap.size,0,none⟩=some (.slice a0 Ad.length cap0):=by rw[hW0];simp
 have I1:W0.cell? ⟨w.heap.size,1,none⟩=some (.slice a1 Am.length cap1):=by rw[hW0];simp
 go_enter Tryz.func425,Tryz.ntmps425
 go_wp2_with fail
 rw[<-hW0]
 refine(hZ _ _ Ad _ Am (Dk.ext hE0) (Ev.ext hE0) hsm).mono ?_
 rintro e w1⟨_,rfl,hx1,t0,t1,ss,ss1,rfl,ho0,ho1,_⟩
 obtain⟨ya,yn,yc,rfl⟩:=ho1.nest.shape
 clear ho1
 have ho0:Bi W0.heap.size 62 2 0 w1 t0 (Ac Ad) ss:=ho0
 obtain⟨oa,on,oc,rfl⟩:=ho0.nest.shape
 obtain⟨X,hX⟩:∃X,X=w1.heap.size:=⟨_,rfl⟩
 have hK0:Blk (w1.alloc (.cells #[.slice oa on oc,.slice none 0 0] 70)) X 70 #[.slice oa on oc,.slice none 0 0]:=by rw[hX];exact Blk.new _ _ _
 have hE1:Ext W0 (w1.alloc (.cells #[.slice oa on oc,.slice none 0 0] 70)):=hx1.alloc _
 have hXa:W0.heap.size<=X:=by rw[hX];exact hx1.size
 have hl0:(Ac Ad).length=Ad.length:=by simp[Ac]
 obtain⟨g,cp,cur,hv,hcp1,hcp2,hBg,_,_⟩:=ho0.open_ (by rw[hl0];omega)
 injection hv with hv1 hv2 hv3
 subst hv1;subst hv2;subst hv3
 rw[hl0] at hK0 hE1 hcp1
 have hgX:g<X:=by rw[hX];exact(ho0.foot g (by simp[Be,Value.ownBlock])).2
 have hM0:Mv W0.heap.size 62 2 312 (w1.alloc (.cells #[.slice (some ⟨g,0,none⟩) Ad.length oc,.slice none 0 0] 70)) g Ad.length oc Ad (.slice none 0 0) [] [] 0:=by
  refine⟨ss,?_,Bi.nil _ _ _ _ _,by simp[Be,Value.ownBlock],fun j s f _ h=>by simp at h⟩
  rw[hl0] at ho0
  exact ho0.ext ((Ext.refl _).alloc _)
 have hr0:Hid (X=w1.heap.size):=Lib.hid hX
 have hw1:w.heap.size+1<w1.heap.size:=by have:=hx1.size;omega
 have hsz1:=hx1.size
 clear hX ho0 hx1 hW0 hl0
 rw[show(Ac Ad).length=Ad.length by simp[Ac]]
 have hfd:∀w:World,(Instr.field 70 (.agg #[.slice (some ⟨g,0,none⟩) Ad.length oc,.slice ya yn yc]) 0).run Tryz.prog w=.ok (.slice (some ⟨g,0,none⟩) Ad.length oc) w:=fun _=>by kernel_rfl
 go_wp2_with fail
 clear hfd
 rw[<-hr0.out]
 rw[<-hr0.out] at hw1 hsz1
 obtain⟨W2,hW2⟩:∃W2,W2=w1.alloc (.cells #[.slice (some ⟨g,0,none⟩) Ad.length oc,.slice none 0 0] 70):=⟨_,rfl⟩
 rw[<-hW2] at hK0 hE1 hM0 ⊢
 clear hW2 hr0
 go_loopw [8] (fun i wr=>∃k:Nat,k<=Am.length/\i=.int .i64 k/\Ext W0 wr/\Blk wr X 70 #[.slice (some ⟨g,0,none⟩) Ad.length oc,.slice none 0 0]/\Mv W0.heap.size 62 2 312 wr g Ad.length oc (Qd all fates ⟨Ad,Am⟩ k) (.slice none 0 0) [] [] k) (fun i _=>Am.length - (intOf i).toNat)
 case atStart=>exact⟨0,Nat.zero_le _,rfl,hE1,hK0,hM0⟩
 case round =>
  obtain⟨k,hk,rfl,he,hK,hM⟩:=hrel
  have p1:=he.cell I1
  have hsz4:=he.size
  by_cases hlt:k<Am.length
  .
   obtain⟨d,b1,o1,sa,sn,sc,hr,rfl,hb1,c0,c1,hin⟩:=HB.out k hlt
   obtain⟨hd1,hd2,hd3⟩:=HR2.out d (List.mem_of_getElem? hr)
   obtain⟨p,hp⟩:=Int.eq_ofNat_of_zero_le hd2
   have HPD:=Lib.hid hp
   have hp0:(0:Int)<=(p:Int):=by omega
   have hp1:(p:Int)<(Ad.length:Int):=by omega
   have d0:=(hE0.trans he).cell c0
   have d1:=(hE0.trans he).cell c1
   rw[hp] at d0
   obtain⟨wq,hwq⟩:∃wq,wq=wr.alloc (.cells #[.int .i64 (p:Int),.slice sa sn sc] 312):=⟨_,rfl⟩
   have hEq:Ext wr wq:=by rw[hwq];exact(Ext.refl _).alloc _
   have hsq:wq.heap.size=wr.heap.size+1:=by rw[hwq];simp
   have hBq:Blk wq wr.heap.size 312 #[.int .i64 (p:Int),.slice sa sn sc]:=by rw[hwq];exact Blk.new _ _ _
   have hE9:Ext W0 wq:=he.trans hEq
   have hin':=hin.ext (hE0.trans hE9)
   have HR:=Lib.hid hr
   have hKq:=hK.ext hEq
   have hMq:=hM.ext hEq
   have hXq:X<wr.heap.size:=hK.lt
   have hgq:=hM.low
   obtain⟨cur,ssk,hn,hGq,hsk,hcur⟩:=hMq.blk (by rw[Lt];exact hk1)
   have hfl:=Lt all fates ⟨Ad,Am⟩ k
   simp only[] at hfl
   obtain⟨rr,hrr⟩:∃rr,(Qd all fates ⟨Ad,Am⟩ k)[p]?=some rr:=⟨_,List.getElem?_eq_getElem oM⟩
   obtain⟨so,hso⟩:∃so,ssk[p]?=some so:=⟨_,List.getElem?_eq_getElem oM⟩
   obtain⟨hcp,hrow⟩:=hcur p rr so hrr hso
   obtain⟨ra,rn,rc,rfl⟩:=hrow.shape
   have hrl:=HOK.out k rr (List.mem_of_getElem? hrr)
   have e9:wq.cell? ⟨g,p,none⟩=some (.slice ra rn rc):=by rw[hGq.cell];exact hcp
   have HRR:=Lib.hid hrr
   have HW:=Lib.hid hwq
   have hFG:=hGq.frozen
   have hGc:(wq.cell? ⟨g,p,none⟩).isSome=true:=by rw[e9];rfl
   clear hr c0 c1 hin hwq hd2 hd3 hp hM hn hsk hcur hrr hso hcp hfl
   by_cases hf:k<fates.length
   .
    obtain⟨x,b2,o2,hx,rfl,hb2,cx⟩:=HC.out k hf
    have dx:=(hE0.trans he).cell cx
    have hb3:b2<wr.heap.size:=by have:=hE0.size;omega
    have hfx:nP fates k=x:=by simp[nP,hx]
    have HFX:=Lib.hid hfx
    clear hx cx hfx
    cases all
    .
     by_cases h1:x=1
     .
      subst h1
      go_wp2_with fail
      rw[<-HW.out]
      obtain⟨Y,hY⟩:∃Y,Y=wr.heap.size:=⟨_,rfl⟩
      rw[<-hY] at hBq hXq hgq hsq hsz4
      simp only[<-hY]
      have hsr:Y<wq.heap.size:=by omega
      clear hY hsq HW d0 d1 p1
      go_region_held3 (fun w'=>w'.cell? ⟨X,0,none⟩=some (.slice (some ⟨g,0,none⟩) Ad.length oc)/\w'.cell? ⟨Y,0,none⟩=some (.int .i64 (p:Int))/\w'.cell? ⟨Y,1,none⟩=some (.slice sa sn sc)) (first|(refine⟨((hKq.ext ?_).cell 0).trans (by simp),((hBq.ext ?_).cell 0).trans (by simp),((hBq.ext ?_).cell 1).trans (by simp)⟩ <;> (exact xT);done)|(refine⟨(((hKq.ext ?_).far (by simp;omega) _).cell 0).trans (by simp),(((hBq.ext ?_).far (by simp;omega) _).cell 0).trans (by simp),(((hBq.ext ?_).far (by simp;omega) _).cell 1).trans (by simp)⟩ <;> (exact xT);done)) (first|(go_at_call 422;refine(Ln _ _ _ (hin'.ext xT) oM).mono ?_;rintro e w2 ⟨_,rfl,hx2,g2⟩;obtain⟨ta,tn,tc,rfl⟩:=g2.shape;have hsz2:wq.heap.size<=w2.heap.size:=hx2.size;have hsz3:wq.drew.heap.size=wq.heap.size:=rfl;obtain⟨hc2,hf2⟩:=hx2.cells;have hgw2:g<w2.heap.size:=oM;have KW2:Blk w2 g 62 _:=hGq.ext xT;have FKW2:=KW2.frozen;have E2:=Ext.cell hx2 (p:=⟨g,p,none⟩) e9))
      all_goals
       go_wp2_with fail
       go_roundw
       case rel =>
        have hM2:=hMq.fresh (w:=w2) xT (g2.mono (Nat.le_refl _)) oM (p:=p) (by rw[Lt];simp only[];omega)
        refine⟨k+1,by omega,by go_num,Ext.setCell xT oM _,?_,?_⟩
        .
         exact(hKq.ext (xT:Ext wq w2)).far (by simp;omega) _
        rw[Mp HR.out]
        unfold Ke
        rw[if_pos (by simp[HFX.out])]
        have hpn:d.At.toNat=p:=by rw[HPD.out];rfl
        rw[hpn]
        exact hM2
       case measure=>simp[intOf];omega
     by_cases h2:x=2
     .
      subst h2
      go_wp2_with fail
      rw[<-HW.out]
      obtain⟨Y,hY⟩:∃Y,Y=wr.heap.size:=⟨_,rfl⟩
      rw[<-hY] at hBq hXq hgq hsq hsz4
      simp only[<-hY]
      have hsr:Y<wq.heap.size:=by omega
      clear hY hsq HW d0 d1 p1
      refine wp_region_held_drew (S:=(fun w'=>w'.cell? ⟨X,0,none⟩=some (.slice (some ⟨g,0,none⟩) Ad.length oc)/\w'.cell? ⟨Y,0,none⟩=some (.int .i64 (p:Int))/\w'.cell? ⟨Y,1,none⟩=some (.slice sa sn sc))) (by kernel_rfl) (by(try dsimp only);first|(refine⟨((hKq.ext ?_).cell 0).trans (by simp),((hBq.ext ?_).cell 0).trans (by simp),((hBq.ext ?_).cell 1).trans (by simp)⟩ <;> (exact xT);done)|(refine⟨(((hKq.ext ?_).far (by simp;omega) _).cell 0).trans (by simp),(((hBq.ext ?_).far (by simp;omega) _).cell 0).trans (by simp),(((hBq.ext ?_).far (by simp;omega) _).cell 1).trans (by simp)⟩ <;> (exact xT);done)) (fun hHeld=>?_)
      refine wt 0 ?_
      (try simp only[Ab,Act.put])
      refine wt 1 ?_
      (try simp only[Ab,Act.put])
      refine wt 2 ?_
      (try simp only[Ab,Act.put])
      refine wt 3 ?_
      (try simp only[Ab,Act.put])
      refine wt 4 ?_
      (try simp only[Ab,Act.put])
      refine wt 5 ?_
      (try simp only[Ab,Act.put])
      refine wt 6 ?_
      (try simp only[Ab,Act.put])
      refine wt 7 ?_
      (try simp only[Ab,Act.put])
      refine wt 8 ?_
      (try simp only[Ab,Act.put])
      refine wt 9 ?_
      (try simp only[Ab,Act.put])
      refine wt 10 ?_
      (try simp only[Ab,Act.put])
      refine wr1 11 fun Kz hKz=>?_
      (try simp only[Ab])
      go_simp
      refine hKz.out _ _ (by(try dsimp only);first|(refine⟨((hKq.ext ?_).cell 0).trans (by simp),((hBq.ext ?_).cell 0).trans (by simp),((hBq.ext ?_).cell 1).trans (by simp)⟩ <;> (exact xT);done)|(refine⟨(((hKq.ext ?_).far (by simp;omega) _).cell 0).trans (by simp),(((hBq.ext ?_).far (by simp;omega) _).cell 0).trans (by simp),(((hBq.ext ?_).far (by simp;omega) _).cell 1).trans (by simp)⟩ <;> (exact xT);done)) (fun hHeld=>?_)
      clear hKz Kz
      (try simp only[Ab,Act.put])
      refine wr1 12 fun Kz hKz=>?_
      (try simp only[Ab])
      go_simp
      (go_at_call 429;refine(pF _ _ _ _ _ (hin'.ext xT) (hrow.ints.ext xT) oM oM).mono ?_;rintro e w2 ⟨_,rfl,hx2,g2⟩;obtain⟨ta,tn,tc,rfl⟩:=g2.shape;have hsz2:wq.heap.size<=w2.heap.size:=hx2.size;have hsz3:wq.drew.heap.size=wq.heap.size:=rfl;obtain⟨hc2,hf2⟩:=hx2.cells;have hgw2:g<w2.heap.size:=oM;have KW2:Blk w2 g 62 _:=hGq.ext xT;have FKW2:=KW2.frozen;have E2:=Ext.cell hx2 (p:=⟨g,p,none⟩) e9)
      refine hKz.out _ _ (by(try dsimp only);first|(refine⟨((hKq.ext ?_).cell 0).trans (by simp),((hBq.ext ?_).cell 0).trans (by simp),((hBq.ext ?_).cell 1).trans (by simp)⟩ <;> (exact xT);done)|(refine⟨(((hKq.ext ?_).far (by simp;omega) _).cell 0).trans (by simp),(((hBq.ext ?_).far (by simp;omega) _).cell 0).trans (by simp),(((hBq.ext ?_).far (by simp;omega) _).cell 1).trans (by simp)⟩ <;> (exact xT);done)) (fun hHeld=>?_)
      clear hKz Kz
      (try simp only[Ab,Act.put])
      refine wt 13 ?_
      (try simp only[Ab,Act.put])
      refine wr1 14 fun Kz hKz=>?_
      (try simp only[Ab])
      go_simp
      refine hKz.out _ _ (by(try dsimp only);first|(refine⟨((hKq.ext ?_).cell 0).trans (by simp),((hBq.ext ?_).cell 0).trans (by simp),((hBq.ext ?_).cell 1).trans (by simp)⟩ <;> (exact xT);done)|(refine⟨(((hKq.ext ?_).far (by simp;omega) _).cell 0).trans (by simp),(((hBq.ext ?_).far (by simp;omega) _).cell 0).trans (by simp),(((hBq.ext ?_).far (by simp;omega) _).cell 1).trans (by simp)⟩ <;> (exact xT);done)) (fun hHeld=>?_)
      clear hKz Kz
      (try simp only[Ab,Act.put])
      refine wpAnyH_done (by kernel_rfl) ?_ _
      all_goals
       go_wp2_with fail
       go_roundw
       case rel =>
        have hM2:=hMq.fresh (w:=w2) xT (g2.mono (Nat.le_refl _)) oM (p:=p) (by rw[Lt];simp only[];omega)
        refine⟨k+1,by omega,by go_num,Ext.setCell xT oM _,?_,?_⟩
        .
         exact(hKq.ext (xT:Ext wq w2)).far (by simp;omega) _
        rw[Mp HR.out]
        unfold Ke
        rw[if_neg (by simp[HFX.out]),if_pos HFX.out]
        have hpn:d.At.toNat=p:=by rw[HPD.out];rfl
        rw[hpn]
        rw[HRR.out];exact hM2
       case measure=>simp[intOf];omega
     go_wp2_with fail
     rw[<-HW.out]
     go_roundw
     case rel =>
      refine⟨k+1,by omega,by go_num,hE9,hKq,?_⟩
      rw[Mp HR.out]
      unfold Ke
      rw[if_neg (by simp[HFX.out,h1]),if_neg (by rw[HFX.out];exact h2)]
      exact hMq.skip
     case measure=>simp[intOf];omega
    go_wp2_with fail
    rw[<-HW.out]
    obtain⟨Y,hY⟩:∃Y,Y=wr.heap.size:=⟨_,rfl⟩
    rw[<-hY] at hBq hXq hgq hsq hsz4
    simp only[<-hY]
    have hsr:Y<wq.heap.size:=by omega
    clear hY hsq HW d0 d1 p1
    go_region_held3 (fun w'=>w'.cell? ⟨X,0,none⟩=some (.slice (some ⟨g,0,none⟩) Ad.length oc)/\w'.cell? ⟨Y,0,none⟩=some (.int .i64 (p:Int))/\w'.cell? ⟨Y,1,none⟩=some (.slice sa sn sc)) (first|(refine⟨((hKq.ext ?_).cell 0).trans (by simp),((hBq.ext ?_).cell 0).trans (by simp),((hBq.ext ?_).cell 1).trans (by simp)⟩ <;> (exact xT);done)|(refine⟨(((hKq.ext ?_).far (by simp;omega) _).cell 0).trans (by simp),(((hBq.ext ?_).far (by simp;omega) _).cell 0).trans (by simp),(((hBq.ext ?_).far (by simp;omega) _).cell 1).trans (by simp)⟩ <;> (exact xT);done)) (first|(go_at_call 422;refine(Ln _ _ _ (hin'.ext xT) oM).mono ?_;rintro e w2 ⟨_,rfl,hx2,g2⟩;obtain⟨ta,tn,tc,rfl⟩:=g2.shape;have hsz2:wq.heap.size<=w2.heap.size:=hx2.size;have hsz3:wq.drew.heap.size=wq.heap.size:=rfl;obtain⟨hc2,hf2⟩:=hx2.cells;have hgw2:g<w2.heap.size:=oM;have KW2:Blk w2 g 62 _:=hGq.ext xT;have FKW2:=KW2.frozen;have E2:=Ext.cell hx2 (p:=⟨g,p,none⟩) e9))
    all_goals
     go_wp2_with fail
     go_roundw
     case rel =>
      have hM2:=hMq.fresh (w:=w2) xT (g2.mono (Nat.le_refl _)) oM (p:=p) (by rw[Lt];simp only[];omega)
      refine⟨k+1,by omega,by go_num,Ext.setCell xT oM _,?_,?_⟩
      .
       exact(hKq.ext (xT:Ext wq w2)).far (by simp;omega) _
      rw[Mp HR.out]
      unfold Ke
      rw[if_pos (by simp)]
      have hpn:d.At.toNat=p:=by rw[HPD.out];rfl
      rw[hpn]
      exact hM2
     case measure=>simp[intOf];omega
   have hfx:nP fates k=0:=by simp[nP,List.getElem?_eq_none (Nat.le_of_not_lt hf)]
   have HFX:=Lib.hid hfx
   clear hfx
   cases all
   .
    go_wp2_with fail
    rw[<-HW.out]
    go_roundw
    case rel =>
     refine⟨k+1,by omega,by go_num,hE9,hKq,?_⟩
     rw[Mp HR.out]
     unfold Ke
     rw[if_neg (by simp[HFX.out]),if_neg (by rw[HFX.out];decide)]
     exact hMq.skip
    case measure=>simp[intOf];omega
   go_wp2_with fail
   rw[<-HW.out]
   obtain⟨Y,hY⟩:∃Y,Y=wr.heap.size:=⟨_,rfl⟩
   rw[<-hY] at hBq hXq hgq hsq hsz4
   simp only[<-hY]
   have hsr:Y<wq.heap.size:=by omega
   clear hY hsq HW d0 d1 p1
   go_region_held3 (fun w'=>w'.cell? ⟨X,0,none⟩=some (.slice (some ⟨g,0,none⟩) Ad.length oc)/\w'.cell? ⟨Y,0,none⟩=some (.int .i64 (p:Int))/\w'.cell? ⟨Y,1,none⟩=some (.slice sa sn sc)) (first|(refine⟨((hKq.ext ?_).cell 0).trans (by simp),((hBq.ext ?_).cell 0).trans (by simp),((hBq.ext ?_).cell 1).trans (by simp)⟩ <;> (exact xT);done)|(refine⟨(((hKq.ext ?_).far (by simp;omega) _).cell 0).trans (by simp),(((hBq.ext ?_).far (by simp;omega) _).cell 0).trans (by simp),(((hBq.ext ?_).far (by simp;omega) _).cell 1).trans (by simp)⟩ <;> (exact xT);done)) (first|(go_at_call 422;refine(Ln _ _ _ (hin'.ext xT) oM).mono ?_;rintro e w2 ⟨_,rfl,hx2,g2⟩;obtain⟨ta,tn,tc,rfl⟩:=g2.shape;have hsz2:wq.heap.size<=w2.heap.size:=hx2.size;have hsz3:wq.drew.heap.size=wq.heap.size:=rfl;obtain⟨hc2,hf2⟩:=hx2.cells;have hgw2:g<w2.heap.size:=oM;have KW2:Blk w2 g 62 _:=hGq.ext xT;have FKW2:=KW2.frozen;have E2:=Ext.cell hx2 (p:=⟨g,p,none⟩) e9))
   all_goals
    go_wp2_with fail
    go_roundw
    case rel =>
     have hM2:=hMq.fresh (w:=w2) xT (g2.mono (Nat.le_refl _)) oM (p:=p) (by rw[Lt];simp only[];omega)
     refine⟨k+1,by omega,by go_num,Ext.setCell xT oM _,?_,?_⟩
     .
      exact(hKq.ext (xT:Ext wq w2)).far (by simp;omega) _
     rw[Mp HR.out]
     unfold Ke
     rw[if_pos (by simp)]
     have hpn:d.At.toNat=p:=by rw[HPD.out];rfl
     rw[hpn]
     exact hM2
    case measure=>simp[intOf];omega
  obtain rfl:k=Am.length:=by omega
  have KR:=R0.ext he
  have CR:=KR.cell
  have FR:=KR.frozen
  have CK:=hK.cell
  have FK:=hK.frozen
  go_wp2_with fail
  refine bodyPost_ret (by simp[results,Tryz.results425,go_sem, *];try rfl) rfl ?_
  obtain⟨ss2,h2,_,_,_⟩:=hM
  refine⟨_,rfl,?_,_,_,ss2,[],rfl,?_,Bi.nil _ _ _ _ _,by simp[Be,Value.ownBlock]⟩
  .
   exact Ext.setCell (Ext.setCell (hE0.trans he) oM _) oM _
  exact((h2.far oM _).far oM _).mono oM
section
variable {B B':Nat} {w w':World} {v:Value} {d d':Ez}
theorem Ee.keep(h:Ee B w v d)(x:Chg B w w'):Ee B w' v d:=let ⟨t0,t1,s0,s1,e,h0,h1,hd⟩:=h;⟨t0,t1,s0,s1,e,h0.keep x,h1.keep x,hd⟩
theorem Ee.ext(h:Ee B w v d)(x:Ext w w'):Ee B w' v d:=let ⟨t0,t1,s0,s1,e,h0,h1,hd⟩:=h;⟨t0,t1,s0,s1,e,h0.ext x,h1.ext x,hd⟩
theorem Ee.mono(h:Ee B w v d)(x:B'<=B):Ee B' w v d:=let ⟨t0,t1,s0,s1,e,h0,h1,hd⟩:=h;⟨t0,t1,s0,s1,e,h0.mono x,h1.mono x,hd⟩
theorem Ee.shape(h:Ee B w v d):∃a0 n0 k0 a1 n1 k1,v=.agg #[.slice a0 n0 k0,.slice a1 n1 k1]:=by
 obtain⟨t0,t1,s0,s1,rfl,h0,h1,hd⟩:=h
 obtain⟨a0,n0,k0,rfl⟩:=h0.nest.shape
 obtain⟨a1,n1,k1,rfl⟩:=h1.nest.shape
 exact⟨a0,n0,k0,a1,n1,k1,rfl⟩
theorem Ee.nil(B:Nat)(w:World):Ee B w (.agg #[.slice none 0 0,.slice none 0 0]) ⟨[],[]⟩:=⟨_,_,[],[],rfl,Bi.nil _ _ _ _ _,Bi.nil _ _ _ _ _,by simp[Be,Value.ownBlock]⟩
theorem Ee.cast(h:Ee B w v d)(e:d=d'):Ee B w v d':=e ▸ h
end
theorem Bi.no{B:Nat}{e e1:TypeId}{n:Nat}{w:World}{v:Value}{rows:List Gn}{ss:List Value}(h:Bi B e e1 n w v rows ss){X:Nat}{t:TypeId}{a:Array Value}(hX:Blk w X t a)(h1:t≠e)(h2:t≠e1):X ∉ Be (v::ss):=by
 intro hf
 simp only[Be,List.mem_filterMap] at hf
 obtain⟨u,hu,hf⟩:=hf
 rcases List.mem_cons.1 hu with rfl|hu
 .
  obtain⟨cur,hb⟩:=Own.typed h.2.2.1 hf
  exact h1 (hX.same hb)
 obtain⟨i,hi⟩:=List.mem_iff_getElem?.1 hu
 have hlt:i<rows.length:=by have:=(List.getElem?_eq_some_iff.1 hi).1;have:=h.2.1;omega
 obtain⟨cur,hb⟩:=Own.typed (h.2.2.2.own i u rows[i] hi (List.getElem?_eq_getElem hlt)) hf
 exact h2 (hX.same hb)
theorem Bi.box{B:Nat}{e e1:TypeId}{n:Nat}{w:World}{v:Value}{rows:List Gn}{ss:List Value}(h:Bi B e e1 n w v rows ss){X:Nat}{t:TypeId}{a:Array Value}(hX:Blk w X t a)(h1:t≠e)(h2:t≠e1)(i:Nat)(u:Value):Bi B e e1 n (w.setCell ⟨X,i,none⟩ u) v rows ss :=
 h.upd (fs:=[X]) ((Upd.refl _ _).setCell (by simp) _) (fun k hk hk'=>h.no hX h1 h2 (by simp at hk';exact hk' ▸ hk))
theorem Mv.wait{B:Nat}{e e1 e2:TypeId}{w:World}{g n c:Nat}{kept:List (List Int)}{v1:Value}{wait:List Eb}{ss1:List Value}{k:Nat}(h:Mv B e e1 e2 w g n c kept v1 wait ss1 k)(hk:k<wait.length):∃(g1 cap1:Nat) (cur1:Array Value) (s:Value) (d:Eb),v1=.slice (some ⟨g1,0,none⟩) wait.length cap1/\Blk w g1 e2 cur1/\g1≠g/\wait[k]?=some d/\ss1[k]?=some s/\cur1[k*2]?=some (.int .i64 d.At)/\cur1[k*2+1]?=some s/\Af B e1 1 w s d.Row:=by
 obtain⟨ss,h0,h1,hg,hdd⟩:=h
 have hl:(Ah wait).length=wait.length:=by simp[Ah]
 obtain⟨g1,cap,cur,rfl,h3,h4,h5,hblk,hc⟩:=h1.open_ oM
 have hd:wait[k]?=some wait[k]:=List.getElem?_eq_getElem hk
 have hw:(Ah wait)[k]?=some ([(wait[k]).At],(wait[k]).Row):=by simp[Ah,hk]
 obtain⟨s,hs⟩:∃s,ss1[k]?=some s:=⟨_,List.getElem?_eq_getElem (by rw[h1.2.1];omega)⟩
 obtain⟨h6,h7⟩:=hc k _ s hw hs
 refine⟨g1,cap,cur,s,_,by rw[hl],hblk,fun e=>hg (by simp[Be,Value.ownBlock,e]),hd,hs,by simpa using h6 0 _ rfl,by simpa using h7,h1.2.2.2.own k s _ hs hw⟩
theorem cZ(w:World)(Dl:Value)(Ad:List (List Int))(Fe:Value)(Am:List Eb)(Dk:Ck 0 w Dl (Ac Ad))(Ev:Ck 1 w Fe (Ah Am)):Calls Tryz.prog 407 #[.agg #[Dl,Fe]] w (Ret w fun r0 w'=>Ee w.heap.size w' r0 (Jf true [] ⟨Ad,Am⟩)):=by
 obtain⟨a0,n0,k0,rfl⟩:=Dk.shape
 obtain⟨a1,n1,k1,rfl⟩:=Ev.shape
 obtain⟨W0,hW0⟩:∃W0,W0=(w.alloc (.cells #[.slice a0 n0 k0,.slice a1 n1 k1] 70)).alloc (.cells #[.slice none 0 0,.slice none 0 0] 70):=⟨_,rfl⟩
 have hE0:Ext w W0:=by rw[hW0];exact((Ext.refl _).alloc _).alloc _
 have hs0:W0.heap.size=w.heap.size+1+1:=by rw[hW0];simp
 have KR0:Blk W0 (w.heap.size+1) 70 #[.slice none 0 0,.slice none 0 0]:=by rw[hW0];exact Blk.new2 _ _ _ _
 have KP0:Blk W0 w.heap.size 70 #[.slice a0 n0 k0,.slice a1 n1 k1]:=by rw[hW0];exact(Blk.new _ _ _).alloc _
 have HW0:=Lib.hid hW0
 clear hW0
 go_enter Tryz.func407,Tryz.ntmps407
 go_wp2_with fail
 rw[<-HW0.out]
 refine(Nq _ _ _ _ _ (Dk.ext hE0) (Ev.ext hE0)).mono ?_
 rintro e w1⟨rfl,hx1⟩
 have hz1:=hx1.size;have KR1:=KR0.ext hx1;have KP1:=KP0.ext hx1;have CR1:=KR1.cell;have FR1:=KR1.frozen;have CP1:=KP1.cell
 have hE1:Ext w w1:=hE0.trans hx1
 cases hb:Fu ⟨Ad,Am⟩
 .
  go_wp2_with fail
  refine bodyPost_ret (by simp[results,Tryz.results407,go_sem, *];try rfl) rfl ?_
  refine⟨_,rfl,?_,(Ee.nil _ _).cast (by simp[Jf,hb])⟩
  exact Ext.setCell (Ext.setCell hE1 oM _) oM _
 go_wp2_with fail
 refine(pQ _ _ Ad _ Am _ [] true (Dk.ext (hE1.alloc _)) (Ev.ext (hE1.alloc _)) ((Own.fresh w1 2 1).sl) hb).mono ?_
 rintro e w2⟨_,rfl,hx2,hd⟩
 obtain⟨b0,m0,j0,b1,m1,j1,rfl⟩:=hd.shape
 have KR2:=(KR1.alloc _).ext hx2;have CR2:=KR2.cell;have FR2:=KR2.frozen;have hz2:=hx2.size
 simp only[World.size_alloc] at hz2
 go_wp2_with fail
 refine bodyPost_ret (by simp[results,Tryz.results407,go_sem, *];try rfl) rfl ?_
 refine⟨_,rfl,?_,Ee.cast (Ee.mono (Ee.keep hd (((Chg.refl _ _).setLow (by simp;omega) _).setLow (by simp;omega) _)) (by simp;omega)) (by simp[Jf,hb])⟩
 exact Ext.setCell (Ext.setCell ((hE1.alloc _).trans hx2) oM _) oM _
theorem iE(w:World)(Dl:Value)(Ad:List (List Int))(Fe:Value)(Am:List Eb)(Dk:Ck 0 w Dl (Ac Ad))(Ev:Ck 1 w Fe (Ah Am)):Calls Tryz.prog 403 #[.agg #[Dl,Fe]] w (Ret w fun r0 w'=>Ee w.heap.size w' r0 (Jf true [] ⟨Ad,Am⟩)):=by
 obtain⟨a0,n0,k0,rfl⟩:=Dk.shape
 obtain⟨a1,n1,k1,rfl⟩:=Ev.shape
 obtain⟨W0,hW0⟩:∃W0,W0=(w.alloc (.cells #[.slice a0 n0 k0,.slice a1 n1 k1] 70)).alloc (.cells #[.slice none 0 0,.slice none 0 0] 70):=⟨_,rfl⟩
 have hE0:Ext w W0:=by rw[hW0];exact((Ext.refl _).alloc _).alloc _
 have hs0:W0.heap.size=w.heap.size+1+1:=by rw[hW0];simp
 have KR0:Blk W0 (w.heap.size+1) 70 #[.slice none 0 0,.slice none 0 0]:=by rw[hW0];exact Blk.new2 _ _ _ _
 have KP0:Blk W0 w.heap.size 70 #[.slice a0 n0 k0,.slice a1 n1 k1]:=by rw[hW0];exact(Blk.new _ _ _).alloc _
 have HW0:=Lib.hid hW0
 clear hW0
 go_enter Tryz.func403,Tryz.ntmps403
 go_wp2_with fail
 rw[<-HW0.out]
 refine(Rm _ _ _ _ _ (Dk.ext hE0) (Ev.ext hE0)).mono ?_
 rintro e w1⟨rfl,hx1⟩
 have hz1:=hx1.size;have KR1:=KR0.ext hx1;have KP1:=KP0.ext hx1;have CR1:=KR1.cell;have FR1:=KR1.frozen;have CP1:=KP1.cell
 have hE1:Ext w w1:=hE0.trans hx1
 cases hb:Fu ⟨Ad,Am⟩
 .
  go_wp2_with fail
  refine bodyPost_ret (by simp[results,Tryz.results403,go_sem, *];try rfl) rfl ?_
  refine⟨_,rfl,?_,(Ee.nil _ _).cast (by simp[Jf,hb])⟩
  exact Ext.setCell (Ext.setCell hE1 oM _) oM _
 obtain⟨hr1,hr2,hk1,hk2,hk3⟩:=Oo hb
 simp only[] at hr1 hr2 hk1 hk2 hk3
 have HR2:=Lib.hid hr2
 clear hr1 hr2
 go_wp2_with fail
 refine(Zx _ _ Ad _ Am (Dk.ext hE1) (Ev.ext hE1) (Pj hb)).mono ?_
 rintro e w2⟨_,rfl,hx2,t0,t1,ss,ss1,rfl,ho0,ho1,hdj⟩
 have ho0:Bi w1.heap.size 62 2 0 w2 t0 (Ac Ad) ss:=ho0
 have ho1:Bi w1.heap.size 312 2 1 w2 t1 (Ah Am) ss1:=ho1
 have hl0:(Ac Ad).length=Ad.length:=by simp[Ac]
 have hl1:(Ah Am).length=Am.length:=by simp[Ah]
 obtain⟨g,oc,cur,rfl,hcp1,hcp2,hBg,_,_⟩:=ho0.open_ oM
 obtain⟨pa,pc,rfl,hpc1,hpc2⟩:=ho1.len
 rw[hl0] at ho0 hdj ⊢
 rw[hl1] at ho1 hdj ⊢
 have KR2:=KR1.ext hx2
 have hz2:=hx2.size
 obtain⟨X,hX⟩:∃X,X=w2.heap.size:=⟨_,rfl⟩
 obtain⟨W2,hW2⟩:∃W2,W2=w2.alloc (.cells #[.slice (some ⟨g,0,none⟩) Ad.length oc,.slice pa Am.length pc] 70):=⟨_,rfl⟩
 have hK0:Blk W2 X 70 #[.slice (some ⟨g,0,none⟩) Ad.length oc,.slice pa Am.length pc]:=by rw[hW2,hX];exact Blk.new _ _ _
 have hE2:Ext w2 W2:=by rw[hW2];exact(Ext.refl _).alloc _
 have hE3:Ext w1 W2:=hx2.trans hE2
 have hM0:Mv w1.heap.size 62 2 312 W2 g Ad.length oc Ad (.slice pa Am.length pc) Am ss1 0 :=
  ⟨ss,ho0.ext hE2,ho1.ext hE2,fun hg=>hdj g (by simp[Be,Value.ownBlock]) hg,fun j s f _ hs hf1 hf2=>hdj f hf2 (Qb hs hf1)⟩
 have hgX:g<X:=by rw[hX];exact(ho0.foot g (by simp[Be,Value.ownBlock])).2
 have hXa:w1.heap.size<=X:=by rw[hX];exact hz2
 have CK0:=hK0.cell
 have HX:=Lib.hid hX;have HW2:=Lib.hid hW2
 clear hX hW2 ho0 ho1 hdj hx2 hcp1 hpc1 hl0 hl1 hz2
 go_wp2_with fail
 rw[<-HW2.out,<-HX.out]
 clear HW2 HX
 go_loopw [15] (fun i wr=>∃k:Nat,k<=Am.length/\i=.int .i64 k/\Ext w1 wr/\Blk wr X 70 #[.slice (some ⟨g,0,none⟩) Ad.length oc,.slice pa Am.length pc]/\Mv w1.heap.size 62 2 312 wr g Ad.length oc (Qd true [] ⟨Ad,Am⟩ k) (.slice pa Am.length pc) Am ss1 k) (fun i _=>Am.length - (intOf i).toNat)
 case atStart=>exact⟨0,Nat.zero_le _,rfl,hE3,hK0,hM0⟩
 case round =>
  clear hK0 hM0 CK0 hE2 hE3 KR2
  obtain⟨k,hk,rfl,he,hK,hM⟩:=hrel
  have hsz4:=he.size
  have hXq:X<wr.heap.size:=hK.lt
  have hgq:=hM.low
  have CK:=hK.cell
  have FK:=hK.frozen
  by_cases hlt:k<Am.length
  .
   obtain⟨g1,cap1,cur1,s,d,hv,hB1,hg1,hr,hs,c0,c1,hrow⟩:=hM.wait hlt
   injection hv with hv1 hv2 hv3
   subst hv1;subst hv3
   obtain⟨sa,sn,sc,rfl⟩:=hrow.shape
   obtain⟨hd1,hd2,hd3⟩:=HR2.out d (List.mem_of_getElem? hr)
   obtain⟨p,hp⟩:=Int.eq_ofNat_of_zero_le hd2
   have HPD:=Lib.hid hp
   have hp0:(0:Int)<=(p:Int):=by omega
   have hp1:(p:Int)<(Ad.length:Int):=by omega
   have hl1:=hB1.lt
   have d0:wr.cell? ⟨g1,k*2,none⟩=some (.int .i64 (p:Int)):=by rw[hB1.cell,c0,hp]
   have d1:wr.cell? ⟨g1,k*2+1,none⟩=some (.slice sa sn sc):=by rw[hB1.cell,c1]
   obtain⟨cur2,ssk,hn,hGq,hsk,hcur⟩:=hM.blk (by rw[Lt];exact hk1)
   have hfl:=Lt true [] ⟨Ad,Am⟩ k
   simp only[] at hfl
   obtain⟨rr,hrr⟩:∃rr,(Qd true [] ⟨Ad,Am⟩ k)[p]?=some rr:=⟨_,List.getElem?_eq_getElem oM⟩
   obtain⟨so,hso⟩:∃so,ssk[p]?=some so:=⟨_,List.getElem?_eq_getElem oM⟩
   have e9:wr.cell? ⟨g,p,none⟩=some so:=by rw[hGq.cell];exact(hcur p rr so hrr hso).1
   have FG:=hGq.frozen
   have HR:=Lib.hid hr;have HS:=Lib.hid hs
   clear hr hs c0 c1 hd2 hd3 hp hn hsk hcur hrr hso hfl hXa
   go_wp2_with fail
   go_roundw
   case rel =>
    refine⟨k+1,by omega,by go_num,(Ext.setCell he oM _).alloc _,(hK.far (by simp;omega) _).alloc _,?_⟩
    rw[Mp HR.out]
    unfold Ke
    rw[if_pos (by simp)]
    have hpn:d.At.toNat=p:=by rw[HPD.out];rfl
    rw[hpn]
    exact(hM.move HS.out HR.out (by rw[Lt];simp only[];omega)).ext ((Ext.refl _).alloc _)
   case measure=>simp[intOf];omega
  obtain rfl:k=Am.length:=by omega
  have KR3:=KR1.ext he
  have CR3:=KR3.cell
  have FR3:=KR3.frozen
  go_wp2_with fail
  refine bodyPost_ret (by simp[results,Tryz.results403,go_sem, *];try rfl) rfl ?_
  obtain⟨ss2,h2,_,_,_⟩:=hM
  refine⟨_,rfl,xT,Ee.cast ⟨_,_,ss2,[],rfl,Bi.mono (B:=w1.heap.size) ?_ oM,Bi.nil _ _ _ _ _,by simp[Be,Value.ownBlock]⟩ (by simp[Jf,hb];rfl)⟩
  have hc1:w.heap.size+1<w1.heap.size:=by omega
  first
   | exact((h2.box hK dC dC _ _).keep (((Chg.refl w1.heap.size _).setLow hc1 _).setLow hc1 _))
   | exact(h2.keep (((Chg.refl w1.heap.size _).setLow hc1 _).setLow hc1 _)).box ((hK.far (by simp;omega) _).far (by simp;omega) _) dC dC _ _
   | (trace_state;fail)
end Go.Proofs.YtkpmbocbbgocbaaGreat
