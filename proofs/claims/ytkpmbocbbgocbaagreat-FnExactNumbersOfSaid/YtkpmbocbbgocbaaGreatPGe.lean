/- Nest2 KA Q1 Q4 KT. -/
import Derived.Test.YtkpmbocbbgocbaaGreatPGb
import Derived.Deep.AppendLies
import Derived.Deep.RegionLaw
set_option linter.unusedSimpArgs false
set_option linter.unusedVariables false
set_option maxHeartbeats 8000000
set_option maxRecDepth 100000
namespace Go.Proofs.YtkpmbocbbgocbaaGreat
open Go.RowKit Go.G8
theorem Upd.grown{w w':World}{row:Option Nat}{fs:List Nat}(h:w.grownBy w' row)(hr:∀k,row=some k->k ∈ fs):Upd w w' fs :=
 ⟨h.os,h.tape,h.output,h.size,fun i hi hn=>h.block i hi (fun e=>hn (hr i e.symm))⟩
theorem Upd.own{a w w':World}{B:Nat}{e:TypeId}{n:Nat}{v:Value}{cs:List Value}{fs:List Nat}(h:Upd a w fs)(hown:Own B e n w v cs)(hB:a.heap.size<=B)(hg:w.grownBy w' v.ownBlock):Upd a w' fs :=
 ⟨hg.os.trans h.os,hg.tape.trans h.tape,hg.output.trans h.output,Nat.le_trans h.size hg.size,fun i hi hn=>(hg.block i (Nat.lt_of_lt_of_le hi h.size) (fun e=>by have:=(hown.lt e.symm).1;omega)).trans (h.block i hi hn)⟩
theorem aI6{P:Program}{w:World}{ops:Array Oper}{rest:List Oper}{o:Oper}{a:Act}{Q:Exit->Act->World->Prop}(hgd:o.guard=none)(s x:Operand)(t:TypeId)
  (ho:o.op=.call { callee:=.builtin .append,args:=#[s,x],argTypes:=#[t,t] })
  (e:TypeId) (i:TypeInfo) (z:Value) (size bytes:Nat) (ht:P.underlying t=some (.slice e)) (hi:P.info? e=some i) (hz:i.zero=some z)
  (hsize:i.size=size) (hby:i.bytes=bytes) (hzs:z.cells.size=size) (hsz:0<size)
  (B:Nat) (v:Value) (cs:List Value) (hs:a.eval s=v) (hown:Own B e size w v cs) (ad:Addr) (m c:Nat) (news:List Value) (hx:a.eval x=.slice (some ad) m c) (hl:news.length=m*size) (hnews:∀j u,news[j]?=some u->w.cell? (ad.add j)=some u) (h1:∀u ∈ news,u.oneCell'=true)
  (n:Nat) (hlen:cs.length+news.length<=n*size) (hn:n<=maxLen) (hbytes:n*bytes<=140737488355328) (hbase:B<=w.heap.size)
  (h:∀v' w',Own B e size w' v' (cs++news)->w.grownBy w' v.ownBlock->(v'.ownBlock=v.ownBlock\/v'.ownBlock=some w.heap.size)->wpList P ops Q rest (a.put o.dst v') w'):wpList P ops Q (o::rest) a w:=by
 obtain⟨len,ho'⟩:=hown
 have hl0:cs.length=len*size:=ho'.1
 have hle:len+m<=n:=by
  have:(len+m)*size<=n*size:=by rw[Nat.add_mul];omega
  exact Nat.le_of_mul_le_mul_right this hsz
 exact wpList_append_own_at w hgd s x t ho B e i z size bytes ht hi hz hsize hby hzs hsz v len cs hs ho' ad m c news hx hl hnews h1 (Nat.le_trans hle hn) (Nat.le_trans (Nat.mul_le_mul_right _ hle) hbytes) hbase (fun v' w' h2 h3 _ h5=>h v' w' ⟨_,h2⟩ h3 h5)
theorem bP3{n:Nat}{rows:List wK}(hw:Wid n rows){r:wK}(hr:r.1.length=n):Wid n (rows++[r]):=by
 intro x hx
 rcases List.mem_append.1 hx with h|h
 .
  exact hw x h
 simp at h;subst h;exact hr
theorem Px.snoc{B B2:Nat}{e e1:TypeId}{n:Nat}{w w':World}{v v':Value}{rows:List wK}{ss:List Value}{r:wK}{t:Value}(h:Px B e e1 n w v rows ss)(hr:r.1.length=n)
  (ht:Ba B2 e1 1 w t r.2) (hB:B<=B2) (hlow:∀k,k ∈ Ep (v::ss)->k<B2)
  (hown:Own B e (n+1) w' v' (AS rows ss++DV (r,t))) (hg:w.grownBy w' v.ownBlock) (hat:v'.ownBlock=v.ownBlock\/v'.ownBlock=some w.heap.size):Px B e e1 n w' v' (rows++[r]) (ss++[t]):=by
 have hf:=h.foot
 obtain⟨hw,hl,ho,hin⟩:=h
 have hU:Upd w w' (Ep [v]):=Upd.grown hg (fun k hk=>by simp[Ep,hk])
 have hv':∀k,k ∈ Ep [v']->k ∈ Ep [v]\/k=w.heap.size:=by
  intro k hk
  simp only[Ep,List.mem_filterMap,List.mem_singleton,exists_eq_left] at hk ⊢
  rcases hat with h'|h'
  .
   exact .inl (h' ▸ hk)
  rw[h'] at hk;injection hk with hk;exact .inr hk.symm
 have hlt:∀k,k ∈ Ep [t]->B2<=k/\k<w.heap.size:=by
  intro k hk
  simp only[Ep,List.mem_filterMap,List.mem_singleton,exists_eq_left] at hk
  exact Own.lt ht hk
 have hvl:∀k,k ∈ Ep [v]->k ∈ Ep (v::ss):=by
  intro k hk
  simp only[Ep,List.mem_filterMap] at hk ⊢
  obtain⟨u,hu,hk⟩:=hk
  simp at hu;subst hu
  exact⟨u,by simp,hk⟩
 refine⟨bP3 hw hr,by simp[hl],by rw[PV hl];exact hown,?_⟩
 have hin':MH B e1 w' v' rows ss:=⟨fun i s q h1 h2=>Ba.upd' (hin.own i s q h1 h2) hU (fun k h3 h4=>hin.out i s k h1 h3 h4),hin.two,fun i s k h1 h2 h3=>by
  rcases hv' k h3 with h4|h4
  .
   exact hin.out i s k h1 h2 h4
  have:=(hf k (OY h1 h2)).2
  omega⟩
 refine hin'.snoc hl ((Ba.upd' ht hU (fun k h3 h4=>?_)).mono hB) (fun i s k h1 h2 h3=>?_) (fun k h1 h2=>?_)
 .
  have:=hlow k (hvl k h4);have:=(hlt k h3).1;omega
 .
  have:=hlow k (OY h1 h2);have:=(hlt k h3).1;omega
 have h3:=hlt k h1
 rcases hv' k h2 with h4|h4
 .
  have:=hlow k (hvl k h4);omega
 omega
theorem XB{n:Nat}{rows:List wK}{ss:List Value}{k:Nat}{r:wK}(hw:Wid n rows)(hl:ss.length=rows.length)(hr:rows[k]?=some r)(xs:List Int)(t:Value):AS (rows.set k (r.1,xs)) (ss.set k t)=(AS rows ss).set (k*(n+1)+n) t:=by
 induction rows generalizing k ss with
 | nil=>simp at hr
 | cons x rows ih =>
  cases ss with
  | nil=>simp at hl
  | cons s ss =>
   have hx:=hw x (by simp)
   cases k with
   | zero =>
    simp at hr;subst hr
    simp only[AS,List.set_cons_zero,List.zip_cons_cons,List.flatMap_cons,Nat.zero_mul,Nat.zero_add,DV]
    rw[List.set_append_left _ _ (by simp;omega),List.set_append_right _ _ (by simp;omega)]
    simp[hx]
   | succ k =>
    have h:=ih (ss:=ss) (k:=k) (fun r hr=>hw r (by simp[hr])) (by simpa using hl) (by simpa using hr)
    simp only[AS,List.set_cons_succ,List.zip_cons_cons,List.flatMap_cons] at h ⊢
    have hlen:(DV (x,s)).length=n+1:=by simp[DV,hx]
    rw[List.set_append_right _ _ (by rw[hlen,Nat.add_mul,Nat.one_mul];omega),hlen,h]
    congr 2
    rw[Nat.add_mul,Nat.one_mul];omega
theorem Px.set_slice{B:Nat}{e e1:TypeId}{n:Nat}{w:World}{rows:List wK}{ss:List Value}{g len cap:Nat}(h:Px B e e1 n w (.slice (some ⟨g,0,none⟩) len cap) rows ss){k:Nat}{r:wK}(hr:rows[k]?=some r){t:Value}{xs:List Int}
  (ht:Ba B e1 1 w t xs) (hd:∀(i:Nat) (s:Value) (f:Nat),i≠k->ss[i]?=some s->f ∈ Ep [s]->f ∈ Ep [t]->False) (hg:g ∉ Ep [t]) :
  Px B e e1 n (w.setCell ⟨g,k*(n+1)+n,none⟩ t) (.slice (some ⟨g,0,none⟩) len cap) (rows.set k (r.1,xs)) (ss.set k t):=by
 obtain⟨hw,hl,hown,hin⟩:=h
 have hU:Upd w (w.setCell ⟨g,k*(n+1)+n,none⟩ t) (Ep [.slice (some ⟨g,0,none⟩) len cap]):=(Upd.refl w _).setCell (by simp[Ep,Value.ownBlock]) _
 have hrl:=hw r (List.mem_of_getElem? hr)
 have hk:k<rows.length:=(List.getElem?_eq_some_iff.1 hr).1
 have hks:k<ss.length:=by omega
 refine⟨aH9 hw k _ (by simpa using hrl),by simpa using hl,?_,⟨fun i s q h1 h2=>?_,fun i j s u f hij h1 h2 h3 h4=>?_,fun i s f h1 h2 h3=>?_⟩⟩
 .
  rw[XB hw hl hr]
  have hnl:=CO hw hl
  obtain⟨a',len',cap',hv,hcl,hc1,hc2,hcase⟩:=Own.open_ hown
  injection hv with hv1 hv2 hv3
  subst hv2;subst hv3
  rcases hcase with hz|⟨g',cur,ha,hBg,hblk,hcsz,hpre⟩
  .
   rw[hnl,hz] at hcl
   have:=Nat.mul_pos (show 0<rows.length by omega) (show 0<n+1 by omega)
   omega
  rw[ha] at hv1
  injection hv1 with hv1
  injection hv1 with hv1
  subst hv1
  refine Own.of_blk (hblk.set_ _ _) hBg (by simpa using hcsz) (by rw[List.length_set];exact hcl) hc1 hc2 (hpre.setBoth oM ?_)
  rw[hcsz];exact Nat.mul_le_mul_right _ hc1
 .
  rcases(Decidable.em (i=k)).symm with hik|rfl
  .
   rw[List.getElem?_set_ne (fun e=>hik e.symm)] at h1 h2
   exact Ba.upd' (hin.own i s q h1 h2) hU (fun f h3 h4=>hin.out i s f h1 h3 h4)
  rw[List.getElem?_set_self hks] at h1
  rw[List.getElem?_set_self hk] at h2
  injection h1 with h1;injection h2 with h2;subst h1;subst h2
  exact Ba.upd' ht hU (fun f h3 h4=>hg (by simp[Ep,Value.ownBlock] at h4;rw[<-h4];exact h3))
 .
  rcases(Decidable.em (i=k)).symm with hik|rfl
  .
   rw[List.getElem?_set_ne (fun e=>hik e.symm)] at h1
   rcases(Decidable.em (j=k)).symm with hjk|rfl
   .
    rw[List.getElem?_set_ne (fun e=>hjk e.symm)] at h2
    exact hin.two i j s u f hij h1 h2 h3 h4
   rw[List.getElem?_set_self hks] at h2
   injection h2 with h2;subst h2
   exact hd i s f hik h1 h3 h4
  rw[List.getElem?_set_self hks] at h1
  injection h1 with h1;subst h1
  rw[List.getElem?_set_ne oM] at h2
  exact hd j u f oM h2 h4 h3
 rcases(Decidable.em (i=k)).symm with hik|rfl
 .
  rw[List.getElem?_set_ne (fun e=>hik e.symm)] at h1
  exact hin.out i s f h1 h2 h3
 rw[List.getElem?_set_self hks] at h1
 injection h1 with h1;subst h1
 simp[Ep,Value.ownBlock] at h3
 exact hg (by rw[<-h3];exact h2)
section
variable {P:Program} {w:World} {B B2:Nat} {e e1:TypeId} {n:Nat} {v:Value} {rows:List wK} {ss:List Value} {r:wK} {t:Value}
theorem Px.len(h:Px B e e1 n w v rows ss):∃a cap,v=.slice a rows.length cap/\rows.length<=cap/\cap<=maxLen:=by
 obtain⟨a,len,cap,h2,h3,h4,h5,_⟩:=Own.open_ h.2.2.1
 rw[CO h.1 h.2.1] at h3
 have:=Nat.eq_of_mul_eq_mul_right oM h3
 subst this
 exact⟨a,cap,h2,h4,h5⟩
theorem Px.open_(h:Px B e e1 n w v rows ss)(hp:0<rows.length):∃g cap cur,v=.slice (some ⟨g,0,none⟩) rows.length cap/\rows.length<=cap/\cap<=maxLen/\B<=g/\Blk w g e cur /\
  ∀i q u,rows[i]?=some q->ss[i]?=some u->(∀j y,q.1[j]?=some y->cur[i*(n+1)+j]?=some (.int .i64 y))/\cur[i*(n+1)+n]?=some u:=by
 obtain⟨a,len,cap,h2,h3,h4,h5,hcase⟩:=Own.open_ h.2.2.1
 have hnl:=CO h.1 h.2.1
 have h3':=h3
 rw[hnl] at h3
 have:=Nat.eq_of_mul_eq_mul_right oM h3
 subst this
 rcases hcase with hz|⟨g,cur,rfl,hBg,hblk,hcsz,hpre⟩
 .
  omega
 refine⟨g,cap,cur,h2,h4,h5,hBg,hblk,fun i q u hq hu=>⟨fun j y hy=>?_,?_⟩⟩
 .
  have hj:j<q.1.length:=(List.getElem?_eq_some_iff.1 hy).1
  have hqn:=h.1 q (List.mem_of_getElem? hq)
  have h7:=Av (List.getElem?_eq_some_iff.1 hq).1 (n+1)
  rw[hpre _ oM]
  exact ZL h.1 hq hu hy
 have h7:=Av (List.getElem?_eq_some_iff.1 hq).1 (n+1)
 rw[hpre _ oM]
 exact QS h.1 hq hu
end
theorem aN9(l:List wK):tot 0 l<=Mj l:=by
 have:(l.map (fun r:wK=>0+r.2.length)).sum=(l.map (fun r:wK=>r.2.length)).sum:=by simp
 unfold tot Mj;omega
theorem bA8(l:List wK):tot 1 l<=Mj l:=by
 unfold tot Mj
 induction l with
 | nil=>simp
 | cons x l ih=>simp only[List.map_cons,List.sum_cons,List.length_cons];omega
theorem Own.typed{B:Nat}{e:TypeId}{n:Nat}{w:World}{v:Value}{cs:List Value}(h:Own B e n w v cs){X:Nat}(hX:v.ownBlock=some X):∃cur,Blk w X e cur:=by
 obtain⟨len,h⟩:=h
 rcases h.2 with⟨h0,_⟩|⟨g,cap,cur,hv,hb,hg,_⟩
 .
  rw[h0] at hX;simp[Value.ownBlock] at hX
 rw[hv] at hX
 simp[Value.ownBlock] at hX
 subst hX
 exact⟨cur,hg⟩
theorem Blk.same{w:World}{X:Nat}{t t':TypeId}{a b:Array Value}(h:Blk w X t a)(k:Blk w X t' b):t=t':=by
 unfold Blk at h k
 rw[h] at k
 injection k with k;injection k with _ k
theorem Px.typed{B:Nat}{e e1:TypeId}{n:Nat}{w:World}{v:Value}{rows:List wK}{ss:List Value}(h:Px B e e1 n w v rows ss){k:Nat}(hk:k ∈ Ep (v::ss)):∃t cur,Blk w k t cur/\(t=e\/t=e1):=by
 simp only[Ep,List.mem_filterMap] at hk
 obtain⟨u,hu,hf⟩:=hk
 rcases List.mem_cons.1 hu with rfl|hu
 .
  obtain⟨cur,hb⟩:=Own.typed h.2.2.1 hf
  exact⟨e,cur,hb,.inl rfl⟩
 obtain⟨i,hi⟩:=List.mem_iff_getElem?.1 hu
 have hlt:i<rows.length:=by have:=(List.getElem?_eq_some_iff.1 hi).1;have:=h.2.1;omega
 obtain⟨cur,hb⟩:=Own.typed (h.2.2.2.own i u rows[i] hi (List.getElem?_eq_getElem hlt)) hf
 exact⟨e1,cur,hb,.inr rfl⟩
theorem Ba.typed{B:Nat}{e:TypeId}{n:Nat}{w:World}{v:Value}{xs:List Int}(h:Ba B e n w v xs){k:Nat}(hk:k ∈ Ep [v]):∃cur,Blk w k e cur:=by
 simp only[Ep,List.mem_filterMap] at hk
 obtain⟨u,hu,hf⟩:=hk
 simp at hu;subst hu
 exact Own.typed h hf
theorem VX{B B':Nat}{e e1 e2:TypeId}{n m:Nat}{w:World}{v v1:Value}{rows:List wK}{ss:List Value}{xs:List Int}(h:Px B e e1 n w v rows ss)(h1:Ba B' e2 m w v1 xs)(n1:e2≠e)(n2:e2≠e1):∀k,k ∈ Ep (v::ss)->k ∈ Ep [v1]->False:=by
 intro k hk hk1
 obtain⟨t,cur,hb,ht⟩:=h.typed hk
 obtain⟨c2,hb2⟩:=h1.typed hk1
 have:=hb2.same hb
 rcases ht with rfl|rfl
 .
  exact n1 this
 exact n2 this
theorem cD6{B B':Nat}{e e2:TypeId}{n m:Nat}{w:World}{v v1:Value}{ys xs:List Int}(h:Ba B e n w v ys)(h1:Ba B' e2 m w v1 xs)(n1:e2≠e):∀k,k ∈ Ep [v]->k ∈ Ep [v1]->False:=by
 intro k hk hk1
 obtain⟨cur,hb⟩:=h.typed hk
 obtain⟨c2,hb2⟩:=h1.typed hk1
 exact n1 (hb2.same hb)
theorem Ext.row{W0 w w':World}{B n:Nat}{e e1:TypeId}{v:Value}{rows:List wK}{ss:List Value}(h:Ext W0 w)(hown:Px B e e1 n w v rows ss)(hB:W0.heap.size<=B)(hg:w.grownBy w' v.ownBlock):Ext W0 w':=Ext.own h hown.2.2.1 hB hg
theorem Sl.sliced{n:Nat}{w:World}{a:Option Addr}{len cap:Nat}{cs:List Value}(h:Sl n w (.slice a len cap) cs){l m:Nat}(h1:l<=m)(h2:m<=len):Sl n w (Go.sliced a l m cap n) ((cs.take (m*n)).drop (l*n)):=by
 obtain⟨a',len',cap',e,hl,hlc,hcm,hnil,hc⟩:=h
 injection e with e1 e2 e3
 subst e1;subst e2;subst e3
 unfold Go.sliced
 refine⟨_,_,_,rfl,?_,by omega,by omega,?_,?_⟩
 .
  have h5:=Nat.mul_le_mul_right n h2
  simp only[List.length_drop,List.length_take,Nat.sub_mul]
  omega
 .
  intro h
  split at h
  .
   omega
  rw[Option.map_eq_none_iff] at h
  have:=hnil h
  omega
 intro b off sp h h0
 rw[if_neg oM,Option.map_eq_some_iff] at h
 obtain⟨⟨b',off',sp'⟩,rfl,h4⟩:=h
 obtain⟨rfl,hb,hcell⟩:=hc b' off' sp' rfl oM
 rw[IE] at h4
 injection h4 with h5 h6 h7
 subst h5;subst h6;subst h7
 refine⟨rfl,hb,fun i u hu=>?_⟩
 rw[Nat.add_assoc]
 apply hcell
 rw[List.getElem?_drop] at hu
 rw[List.getElem?_take] at hu
 split at hu
 .
  exact hu
 cases hu
theorem Aw.take{w:World}{a:Option Addr}{len cap:Nat}{xs:List Int}(h:Aw 1 w (.slice a len cap) xs){m:Nat}(h2:m<=len):Aw 1 w (.slice a m cap) (xs.take m):=by
 obtain⟨a',len',cap',e,hl,hlc,hcm,hnil,hc⟩:=h
 injection e with e1 e2 e3
 subst e1;subst e2;subst e3
 refine⟨_,_,_,rfl,by simp at hl ⊢;omega,by omega,hcm,hnil,fun b off sp h h0=>?_⟩
 obtain⟨h3,h4,h5⟩:=hc b off sp h oM
 refine⟨h3,h4,fun i u hu=>h5 i u ?_⟩
 rw[List.map_take,List.getElem?_take] at hu
 split at hu
 .
  exact hu
 cases hu
theorem Aw.sliced{w:World}{a:Option Addr}{len cap:Nat}{xs:List Int}(h:Aw 1 w (.slice a len cap) xs){l m:Nat}(h1:l<=m)(h2:m<=len):Aw 1 w (Go.sliced a l m cap 1) ((xs.take m).drop l):=by
 have:=Sl.sliced h h1 h2
 simp only[Nat.mul_one,<-List.map_take,<-List.map_drop] at this
 exact this
theorem Aw.drop{w:World}{a:Option Addr}{cap:Nat}{xs:List Int}(h:Aw 1 w (.slice a xs.length cap) xs){m:Nat}(h1:m<xs.length)(h2:xs.length<=cap):Aw 1 w (.slice (a.map (fun x=>x.add m)) (xs.length - m) (cap - m)) (xs.drop m):=by
 have:=h.sliced (l:=m) (Nat.le_of_lt h1) (Nat.le_refl _)
 rw[List.take_length] at this
 unfold Go.sliced at this
 rw[if_neg oM,Nat.mul_one] at this
 exact this
def LZ(w:World)(v:Value)(s:BU):Prop:=∃t2 t3:Value,v=.agg #[.int .i64 s.Index,.int .i64 s.Time,t2,t3,.int .i64 s.Lease.Holder,.int .i64 s.Lease.Epoch,.int .i64 s.Lease.Until]/\Aw 2 w t2 (wI s.Pairs)/\Aw 5 w t3 (AQ s.Jobs)
def GY(B:Nat)(w:World)(v:Value)(s:BU)(F:List Nat):Prop:=∃t2 t3:Value,v=.agg #[.int .i64 s.Index,.int .i64 s.Time,t2,t3,.int .i64 s.Lease.Holder,.int .i64 s.Lease.Epoch,.int .i64 s.Lease.Until]/\Ba B 362 2 w t2 (wI s.Pairs)/\Ba B 366 5 w t3 (AQ s.Jobs)/\F=Ep [t2]++Ep [t3]
def aI7(B:Nat)(w:World)(v:Value)(s:BU)(F:List Nat)(q:Int):Prop:=∃t2 t3:Value,v=.agg #[.int .i64 s.Index,.int .i64 s.Time,t2,t3,.int .i64 s.Lease.Holder,.int .i64 s.Lease.Epoch,.int .i64 s.Lease.Until]/\Ba B 362 2 w t2 (run q (s.Pairs.length*2))/\Ba B 366 5 w t3 (run (q+(s.Pairs.length*2:Nat)) (s.Jobs.length*5))/\F=Ep [t2]++Ep [t3]
section
variable {B B':Nat} {w w':World} {v:Value} {s s':BU} {F:List Nat} {q:Int}
theorem GI.keep(h:GI B w v s)(x:Chg B w w'):GI B w' v s:=let ⟨t2,t3,e,h2,h3⟩:=h;⟨t2,t3,e,h2.keep x,h3.keep x⟩
theorem GI.mono(h:GI B w v s)(x:B'<=B):GI B' w v s:=let ⟨t2,t3,e,h2,h3⟩:=h;⟨t2,t3,e,h2.mono x,h3.mono x⟩
theorem GI.ext(h:GI B w v s)(x:Ext w w'):GI B w' v s:=let ⟨t2,t3,e,h2,h3⟩:=h;⟨t2,t3,e,Own.ext h2 x,Own.ext h3 x⟩
theorem GI.rd(h:GI B w v s):LZ w v s:=let ⟨t2,t3,e,h2,h3⟩:=h;⟨t2,t3,e,h2.ints,h3.ints⟩
theorem LZ.shape(h:LZ w v s):∃a2 n2 k2 a3 n3 k3,v=.agg #[.int .i64 s.Index,.int .i64 s.Time,.slice a2 n2 k2,.slice a3 n3 k3,.int .i64 s.Lease.Holder,.int .i64 s.Lease.Epoch,.int .i64 s.Lease.Until]:=by
 obtain⟨t2,t3,rfl,h2,h3⟩:=h
 obtain⟨a2,n2,k2,rfl⟩:=h2.shape
 obtain⟨a3,n3,k3,rfl⟩:=h3.shape
 exact⟨a2,n2,k2,a3,n3,k3,rfl⟩
theorem LZ.ext(h:LZ w v s)(x:Ext w w'):LZ w' v s:=let ⟨t2,t3,e,h2,h3⟩:=h;⟨t2,t3,e,h2.ext x,h3.ext x⟩
theorem GY.rd(h:GY B w v s F):LZ w v s:=let ⟨t2,t3,e,h2,h3,_⟩:=h;⟨t2,t3,e,h2.ints,h3.ints⟩
theorem GY.is(h:GY B w v s F):GI B w v s:=let ⟨t2,t3,e,h2,h3,_⟩:=h;⟨t2,t3,e,h2,h3⟩
theorem GY.ext(h:GY B w v s F)(x:Ext w w'):GY B w' v s F:=let ⟨t2,t3,e,h2,h3,hF⟩:=h;⟨t2,t3,e,Own.ext h2 x,Own.ext h3 x,hF⟩
theorem GY.keep(h:GY B w v s F)(x:Chg B w w'):GY B w' v s F:=let ⟨t2,t3,e,h2,h3,hF⟩:=h;⟨t2,t3,e,h2.keep x,h3.keep x,hF⟩
theorem GY.mono(h:GY B w v s F)(x:B'<=B):GY B' w v s F:=let ⟨t2,t3,e,h2,h3,hF⟩:=h;⟨t2,t3,e,h2.mono x,h3.mono x,hF⟩
theorem GY.upd(h:GY B w v s F){fs:List Nat}(x:Upd w w' fs)(hn:∀k,k ∈ F->k ∈ fs->False):GY B w' v s F:=by
 obtain⟨t2,t3,e,h2,h3,rfl⟩:=h
 exact⟨t2,t3,e,Ba.upd' h2 x (fun k h=>hn k (List.mem_append_left _ h)),Ba.upd' h3 x (fun k h=>hn k (List.mem_append_right _ h)),rfl⟩
theorem GY.low(h:GY B w v s F):∀k,k ∈ F->B<=k/\k<w.heap.size:=by
 obtain⟨t2,t3,e,h2,h3,rfl⟩:=h
 intro k hk
 rcases List.mem_append.1 hk with h|h
 .
  exact h2.foot k h
 exact h3.foot k h
theorem aI7.ext(h:aI7 B w v s F q)(x:Ext w w'):aI7 B w' v s F q:=let ⟨t2,t3,e,h2,h3,hF⟩:=h;⟨t2,t3,e,Own.ext h2 x,Own.ext h3 x,hF⟩
end
def VI(w:World)(v:Value)(s:aE8):Prop:=∃t2 t3:Value,v=.agg #[.int .i64 s.Num,.int .i64 s.State.Index,.int .i64 s.State.Time,t2,t3,.int .i64 s.State.Lease.Holder,.int .i64 s.State.Lease.Epoch,.int .i64 s.State.Lease.Until]/\Aw 2 w t2 (wI s.State.Pairs)/\Aw 5 w t3 (AQ s.State.Jobs)
def JO(B:Nat)(w:World)(v:Value)(s:aE8)(F:List Nat):Prop:=∃t2 t3:Value,v=.agg #[.int .i64 s.Num,.int .i64 s.State.Index,.int .i64 s.State.Time,t2,t3,.int .i64 s.State.Lease.Holder,.int .i64 s.State.Lease.Epoch,.int .i64 s.State.Lease.Until]/\Ba B 362 2 w t2 (wI s.State.Pairs)/\Ba B 366 5 w t3 (AQ s.State.Jobs)/\F=Ep [t2]++Ep [t3]
def aU3(B:Nat)(w:World)(v:Value)(s:aE8)(F:List Nat)(q:Int):Prop:=∃t2 t3:Value,v=.agg #[.int .i64 s.Num,.int .i64 s.State.Index,.int .i64 s.State.Time,t2,t3,.int .i64 s.State.Lease.Holder,.int .i64 s.State.Lease.Epoch,.int .i64 s.State.Lease.Until]/\Ba B 362 2 w t2 (run q (s.State.Pairs.length*2))/\Ba B 366 5 w t3 (run (q+(s.State.Pairs.length*2:Nat)) (s.State.Jobs.length*5))/\F=Ep [t2]++Ep [t3]
section
variable {B B':Nat} {w w':World} {v:Value} {s s':aE8} {F:List Nat} {q:Int}
theorem JS.keep(h:JS B w v s)(x:Chg B w w'):JS B w' v s:=let ⟨t2,t3,e,h2,h3⟩:=h;⟨t2,t3,e,h2.keep x,h3.keep x⟩
theorem JS.mono(h:JS B w v s)(x:B'<=B):JS B' w v s:=let ⟨t2,t3,e,h2,h3⟩:=h;⟨t2,t3,e,h2.mono x,h3.mono x⟩
theorem JS.ext(h:JS B w v s)(x:Ext w w'):JS B w' v s:=let ⟨t2,t3,e,h2,h3⟩:=h;⟨t2,t3,e,Own.ext h2 x,Own.ext h3 x⟩
theorem JS.rd(h:JS B w v s):VI w v s:=let ⟨t2,t3,e,h2,h3⟩:=h;⟨t2,t3,e,h2.ints,h3.ints⟩
theorem VI.shape(h:VI w v s):∃a2 n2 k2 a3 n3 k3,v=.agg #[.int .i64 s.Num,.int .i64 s.State.Index,.int .i64 s.State.Time,.slice a2 n2 k2,.slice a3 n3 k3,.int .i64 s.State.Lease.Holder,.int .i64 s.State.Lease.Epoch,.int .i64 s.State.Lease.Until]:=by
 obtain⟨t2,t3,rfl,h2,h3⟩:=h
 obtain⟨a2,n2,k2,rfl⟩:=h2.shape
 obtain⟨a3,n3,k3,rfl⟩:=h3.shape
 exact⟨a2,n2,k2,a3,n3,k3,rfl⟩
theorem VI.ext(h:VI w v s)(x:Ext w w'):VI w' v s:=let ⟨t2,t3,e,h2,h3⟩:=h;⟨t2,t3,e,h2.ext x,h3.ext x⟩
theorem JO.rd(h:JO B w v s F):VI w v s:=let ⟨t2,t3,e,h2,h3,_⟩:=h;⟨t2,t3,e,h2.ints,h3.ints⟩
theorem JO.is(h:JO B w v s F):JS B w v s:=let ⟨t2,t3,e,h2,h3,_⟩:=h;⟨t2,t3,e,h2,h3⟩
theorem JO.ext(h:JO B w v s F)(x:Ext w w'):JO B w' v s F:=let ⟨t2,t3,e,h2,h3,hF⟩:=h;⟨t2,t3,e,Own.ext h2 x,Own.ext h3 x,hF⟩
theorem JO.keep(h:JO B w v s F)(x:Chg B w w'):JO B w' v s F:=let ⟨t2,t3,e,h2,h3,hF⟩:=h;⟨t2,t3,e,h2.keep x,h3.keep x,hF⟩
theorem JO.mono(h:JO B w v s F)(x:B'<=B):JO B' w v s F:=let ⟨t2,t3,e,h2,h3,hF⟩:=h;⟨t2,t3,e,h2.mono x,h3.mono x,hF⟩
theorem JO.upd(h:JO B w v s F){fs:List Nat}(x:Upd w w' fs)(hn:∀k,k ∈ F->k ∈ fs->False):JO B w' v s F:=by
 obtain⟨t2,t3,e,h2,h3,rfl⟩:=h
 exact⟨t2,t3,e,Ba.upd' h2 x (fun k h=>hn k (List.mem_append_left _ h)),Ba.upd' h3 x (fun k h=>hn k (List.mem_append_right _ h)),rfl⟩
theorem JO.low(h:JO B w v s F):∀k,k ∈ F->B<=k/\k<w.heap.size:=by
 obtain⟨t2,t3,e,h2,h3,rfl⟩:=h
 intro k hk
 rcases List.mem_append.1 hk with h|h
 .
  exact h2.foot k h
 exact h3.foot k h
theorem aU3.ext(h:aU3 B w v s F q)(x:Ext w w'):aU3 B w' v s F q:=let ⟨t2,t3,e,h2,h3,hF⟩:=h;⟨t2,t3,e,Own.ext h2 x,Own.ext h3 x,hF⟩
end
def XC(w:World)(v:Value)(l:List (List Int)):Prop:=Ll 0 w v (Bd l)
def IK(B:Nat)(w:World)(v:Value)(l:List (List Int))(F:List Nat):Prop:=∃ss:List Value,Px B 62 2 0 w v (Bd l) ss/\F=Ep (v::ss)
def aU4(B:Nat)(w:World)(v:Value)(l:List (List Int))(F:List Nat)(q:Int):Prop:=∃ss:List Value,Px B 62 2 0 w v (FQ 0 q (Bd l)) ss/\F=Ep (v::ss)
section
variable {B B':Nat} {w w':World} {v:Value} {l:List (List Int)} {F:List Nat} {q:Int}
theorem XC.shape(h:XC w v l):∃a n k,v=.slice a n k:=Ll.shape h
theorem XC.ext(h:XC w v l)(x:Ext w w'):XC w' v l:=Ll.ext h x
theorem IK.of(h:DZ B 62 2 0 w v (Bd l)):∃F,IK B w v l F:=let ⟨ss,h⟩:=h;⟨_,ss,h,rfl⟩
theorem IK.rd(h:IK B w v l F):XC w v l:=let ⟨_,h,_⟩:=h;h.nest
theorem IK.ext(h:IK B w v l F)(x:Ext w w'):IK B w' v l F:=let ⟨s,h,e⟩:=h;⟨s,h.ext x,e⟩
theorem IK.keep(h:IK B w v l F)(x:Chg B w w'):IK B w' v l F:=let ⟨s,h,e⟩:=h;⟨s,h.keep x,e⟩
theorem IK.mono(h:IK B w v l F)(x:B'<=B):IK B' w v l F:=let ⟨s,h,e⟩:=h;⟨s,h.mono x,e⟩
theorem IK.upd(h:IK B w v l F){fs:List Nat}(x:Upd w w' fs)(hn:∀k,k ∈ F->k ∈ fs->False):IK B w' v l F:=by
 obtain⟨s,h,rfl⟩:=h
 exact⟨s,h.upd x hn,rfl⟩
theorem IK.low(h:IK B w v l F):∀k,k ∈ F->B<=k/\k<w.heap.size:=by
 obtain⟨s,h,rfl⟩:=h
 exact h.foot
theorem aU4.ext(h:aU4 B w v l F q)(x:Ext w w'):aU4 B w' v l F q:=let ⟨s,h,e⟩:=h;⟨s,h.ext x,e⟩
end
end Go.Proofs.YtkpmbocbbgocbaaGreat
