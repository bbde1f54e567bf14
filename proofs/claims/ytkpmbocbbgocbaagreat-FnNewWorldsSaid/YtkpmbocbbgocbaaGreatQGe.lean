/- Nest2 KA KT Q1 Q4. -/
import Derived.Test.YtkpmbocbbgocbaaGreatQGb
import Derived.Deep.AppendLies
import Derived.Deep.RegionLaw
set_option linter.unusedSimpArgs false
set_option linter.unusedVariables false
set_option maxHeartbeats 8000000
set_option maxRecDepth 100000
namespace Go.Proofs.YtkpmbocbbgocbaaGreat
open Go.RowKit Go.G8
theorem Upd.grown{w w':World}{row:Option Nat}{fs:List Nat}(h:w.grownBy w' row)(hr:∀k,row=some k->k ∈ fs):Upd w w' fs :=
 ⟨h.os,h.tape,h.output,h.size,fun i hi hn=>h.block i hi (fun e=>hn (hr i e.symm))⟩
theorem Upd.own{a w w':World}{B:Nat}{e:TypeId}{n:Nat}{v:Value}{cs:List Value}{fs:List Nat}(h:Upd a w fs)(hown:Own B e n w v cs)(hB:a.heap.size<=B)(hg:w.grownBy w' v.ownBlock):Upd a w' fs :=
 ⟨hg.os.trans h.os,hg.tape.trans h.tape,hg.output.trans h.output,Nat.le_trans h.size hg.size,fun i hi hn=>(hg.block i (Nat.lt_of_lt_of_le hi h.size) (fun e=>by have:=(hown.lt e.symm).1;omega)).trans (h.block i hi hn)⟩
theorem eD{P:Program}{w:World}{ops:Array Oper}{rest:List Oper}{o:Oper}{a:Act}{Q:Exit->Act->World->Prop}(hgd:o.guard=none)(s x:Operand)(t:TypeId)
  (ho:o.op=.call { callee:=.builtin .append,args:=#[s,x],argTypes:=#[t,t] })
  (e:TypeId) (i:TypeInfo) (z:Value) (size bytes:Nat) (ht:P.underlying t=some (.slice e)) (hi:P.info? e=some i) (hz:i.zero=some z)
  (hsize:i.size=size) (hby:i.bytes=bytes) (hzs:z.cells.size=size) (hsz:0<size)
  (B:Nat) (v:Value) (cs:List Value) (hs:a.eval s=v) (hown:Own B e size w v cs) (ad:Addr) (m c:Nat) (news:List Value) (hx:a.eval x=.slice (some ad) m c) (hl:news.length=m*size) (hnews:∀j u,news[j]?=some u->w.cell? (ad.add j)=some u) (h1:∀u ∈ news,u.oneCell'=true)
  (n:Nat) (hlen:cs.length+news.length<=n*size) (hn:n<=maxLen) (hbytes:n*bytes<=140737488355328) (hbase:B<=w.heap.size)
  (h:∀v' w',Own B e size w' v' (cs++news)->w.grownBy w' v.ownBlock->(v'.ownBlock=v.ownBlock\/v'.ownBlock=some w.heap.size)->wpList P ops Q rest (a.put o.dst v') w'):wpList P ops Q (o::rest) a w:=by
 obtain⟨len,ho'⟩:=hown
 have hl0:cs.length=len*size:=ho'.1
 have hle:len+m<=n:=by
  have:(len+m)*size<=n*size:=by rw[Nat.add_mul];omega
  exact Nat.le_of_mul_le_mul_right this hsz
 exact wpList_append_own_at w hgd s x t ho B e i z size bytes ht hi hz hsize hby hzs hsz v len cs hs ho' ad m c news hx hl hnews h1 (Nat.le_trans hle hn) (Nat.le_trans (Nat.mul_le_mul_right _ hle) hbytes) hbase (fun v' w' h2 h3 _ h5=>h v' w' ⟨_,h2⟩ h3 h5)
theorem nF(p:Gn × Value)(h:p.2.oneCell'=true):∀u ∈ Ly p,u.oneCell'=true:=by
 intro u hu
 simp only[Ly,List.mem_append,List.mem_map,List.mem_singleton] at hu
 rcases hu with⟨x,_,rfl⟩|rfl
 .
  rfl
 exact h
theorem pE{n:Nat}{rows:List Gn}(hw:Wid n rows){r:Gn}(hr:r.1.length=n):Wid n (rows++[r]):=by
 intro x hx
 rcases List.mem_append.1 hx with h|h
 .
  exact hw x h
 simp at h;subst h;exact hr
theorem Bi.snoc{B B2:Nat}{e e1:TypeId}{n:Nat}{w w':World}{v v':Value}{rows:List Gn}{ss:List Value}{r:Gn}{t:Value}(h:Bi B e e1 n w v rows ss)(hr:r.1.length=n)
  (ht:Af B2 e1 1 w t r.2) (hB:B<=B2) (hlow:∀k,k ∈ Be (v::ss)->k<B2)
  (hown:Own B e (n+1) w' v' (Je rows ss++Ly (r,t))) (hg:w.grownBy w' v.ownBlock) (hat:v'.ownBlock=v.ownBlock\/v'.ownBlock=some w.heap.size):Bi B e e1 n w' v' (rows++[r]) (ss++[t]):=by
 have hf:=h.foot
 obtain⟨hw,hl,ho,hin⟩:=h
 have hU:Upd w w' (Be [v]):=Upd.grown hg (fun k hk=>by simp[Be,hk])
 have hv':∀k,k ∈ Be [v']->k ∈ Be [v]\/k=w.heap.size:=by
  intro k hk
  simp only[Be,List.mem_filterMap,List.mem_singleton,exists_eq_left] at hk ⊢
  rcases hat with h'|h'
  .
   exact .inl (h' ▸ hk)
  rw[h'] at hk;injection hk with hk;exact .inr hk.symm
 have hlt:∀k,k ∈ Be [t]->B2<=k/\k<w.heap.size:=by
  intro k hk
  simp only[Be,List.mem_filterMap,List.mem_singleton,exists_eq_left] at hk
  exact Own.lt ht hk
 have hvl:∀k,k ∈ Be [v]->k ∈ Be (v::ss):=by
  intro k hk
  simp only[Be,List.mem_filterMap] at hk ⊢
  obtain⟨u,hu,hk⟩:=hk
  simp at hu;subst hu
  exact⟨u,by simp,hk⟩
 refine⟨pE hw hr,by simp[hl],by rw[gP hl];exact hown,?_⟩
 have hin':Qu B e1 w' v' rows ss:=⟨fun i s q h1 h2=>Af.upd' (hin.own i s q h1 h2) hU (fun k h3 h4=>hin.out i s k h1 h3 h4),hin.two,fun i s k h1 h2 h3=>by
  rcases hv' k h3 with h4|h4
  .
   exact hin.out i s k h1 h2 h4
  have:=(hf k (Qb h1 h2)).2
  omega⟩
 refine hin'.snoc hl ((Af.upd' ht hU (fun k h3 h4=>?_)).mono hB) (fun i s k h1 h2 h3=>?_) (fun k h1 h2=>?_)
 .
  have:=hlow k (hvl k h4);have:=(hlt k h3).1;omega
 .
  have:=hlow k (Qb h1 h2);have:=(hlt k h3).1;omega
 have h3:=hlt k h1
 rcases hv' k h2 with h4|h4
 .
  have:=hlow k (hvl k h4);omega
 omega
theorem Xi{n:Nat}{rows:List Gn}{ss:List Value}{k:Nat}{r:Gn}(hw:Wid n rows)(hl:ss.length=rows.length)(hr:rows[k]?=some r)(xs:List Int)(t:Value):Je (rows.set k (r.1,xs)) (ss.set k t)=(Je rows ss).set (k*(n+1)+n) t:=by
 induction rows generalizing k ss with
 | nil=>simp at hr
 | cons x rows ih =>
  cases ss with
  | nil=>simp at hl
  | cons s ss =>
   have hx:=hw x (by simp)
   cases k with
   | zero =>
    simp at hr;subst hr
    simp only[Je,List.set_cons_zero,List.zip_cons_cons,List.flatMap_cons,Nat.zero_mul,Nat.zero_add,Ly]
    rw[List.set_append_left _ _ (by simp;omega),List.set_append_right _ _ (by simp;omega)]
    simp[hx]
   | succ k =>
    have h:=ih (ss:=ss) (k:=k) (fun r hr=>hw r (by simp[hr])) (by simpa using hl) (by simpa using hr)
    simp only[Je,List.set_cons_succ,List.zip_cons_cons,List.flatMap_cons] at h ⊢
    have hlen:(Ly (x,s)).length=n+1:=by simp[Ly,hx]
    rw[List.set_append_right _ _ (by rw[hlen,Nat.add_mul,Nat.one_mul];omega),hlen,h]
    congr 2
    rw[Nat.add_mul,Nat.one_mul];omega
theorem Bi.set_slice{B:Nat}{e e1:TypeId}{n:Nat}{w:World}{rows:List Gn}{ss:List Value}{g len cap:Nat}(h:Bi B e e1 n w (.slice (some ⟨g,0,none⟩) len cap) rows ss){k:Nat}{r:Gn}(hr:rows[k]?=some r){t:Value}{xs:List Int}
  (ht:Af B e1 1 w t xs) (hd:∀(i:Nat) (s:Value) (f:Nat),i≠k->ss[i]?=some s->f ∈ Be [s]->f ∈ Be [t]->False) (hg:g ∉ Be [t]) :
  Bi B e e1 n (w.setCell ⟨g,k*(n+1)+n,none⟩ t) (.slice (some ⟨g,0,none⟩) len cap) (rows.set k (r.1,xs)) (ss.set k t):=by
 obtain⟨hw,hl,hown,hin⟩:=h
 have hU:Upd w (w.setCell ⟨g,k*(n+1)+n,none⟩ t) (Be [.slice (some ⟨g,0,none⟩) len cap]):=(Upd.refl w _).setCell (by simp[Be,Value.ownBlock]) _
 have hrl:=hw r (List.mem_of_getElem? hr)
 have hk:k<rows.length:=(List.getElem?_eq_some_iff.1 hr).1
 have hks:k<ss.length:=by omega
 refine⟨sN hw k _ (by simpa using hrl),by simpa using hl,?_,⟨fun i s q h1 h2=>?_,fun i j s u f hij h1 h2 h3 h4=>?_,fun i s f h1 h2 h3=>?_⟩⟩
 .
  rw[Xi hw hl hr]
  have hnl:=Qa hw hl
  obtain⟨a',len',cap',hv,hcl,hc1,hc2,hcase⟩:=Own.open_ hown
  injection hv with hv1 hv2 hv3
  subst hv2;subst hv3
  rcases hcase with hz|⟨g',cur,ha,hBg,hblk,hcsz,hpre⟩
  .
   rw[hnl,hz] at hcl
   have:=Nat.mul_pos (show 0<rows.length by omega) (show 0<n+1 by omega)
   omega
  rw[ha] at hv1
  injection hv1 with hv1
  injection hv1 with hv1
  subst hv1
  refine Own.of_blk (hblk.set_ _ _) hBg (by simpa using hcsz) (by rw[List.length_set];exact hcl) hc1 hc2 (hpre.setBoth oM ?_)
  rw[hcsz];exact Nat.mul_le_mul_right _ hc1
 .
  rcases(Decidable.em (i=k)).symm with hik|rfl
  .
   rw[List.getElem?_set_ne (fun e=>hik e.symm)] at h1 h2
   exact Af.upd' (hin.own i s q h1 h2) hU (fun f h3 h4=>hin.out i s f h1 h3 h4)
  rw[List.getElem?_set_self hks] at h1
  rw[List.getElem?_set_self hk] at h2
  injection h1 with h1;injection h2 with h2;subst h1;subst h2
  exact Af.upd' ht hU (fun f h3 h4=>hg (by simp[Be,Value.ownBlock] at h4;rw[<-h4];exact h3))
 .
  rcases(Decidable.em (i=k)).symm with hik|rfl
  .
   rw[List.getElem?_set_ne (fun e=>hik e.symm)] at h1
   rcases(Decidable.em (j=k)).symm with hjk|rfl
   .
    rw[List.getElem?_set_ne (fun e=>hjk e.symm)] at h2
    exact hin.two i j s u f hij h1 h2 h3 h4
   rw[List.getElem?_set_self hks] at h2
   injection h2 with h2;subst h2
   exact hd i s f hik h1 h3 h4
  rw[List.getElem?_set_self hks] at h1
  injection h1 with h1;subst h1
  rw[List.getElem?_set_ne oM] at h2
  exact hd j u f oM h2 h4 h3
 rcases(Decidable.em (i=k)).symm with hik|rfl
 .
  rw[List.getElem?_set_ne (fun e=>hik e.symm)] at h1
  exact hin.out i s f h1 h2 h3
 rw[List.getElem?_set_self hks] at h1
 injection h1 with h1;subst h1
 simp[Be,Value.ownBlock] at h3
 exact hg (by rw[<-h3];exact h2)
section
variable {P:Program} {w:World} {B B2:Nat} {e e1:TypeId} {n:Nat} {v:Value} {rows:List Gn} {ss:List Value} {r:Gn} {t:Value}
theorem Eu{o:Oper}{a:Act}{K:Act->World->Prop}{Q:Exit->Act->World->Prop}(s x:Operand)(ty:TypeId)
  (ho:o.op=.call { callee:=.builtin .append,args:=#[s,x],argTypes:=#[ty,ty] })
  (i:TypeInfo) (z:Value) (bytes:Nat) (ht:P.underlying ty=some (.slice e)) (hi:P.info? e=some i) (hz:i.zero=some z)
  (hsize:i.size=n+1) (hby:i.bytes=bytes) (hzs:z.cells.size=n+1)
  (hs:a.eval s=v) (hown:Bi B e e1 n w v rows ss) (b:Nat) (hx:a.eval x=.slice (some ⟨b,0,none⟩) 1 1) (cs:Array Value) (hb:Blk w b e cs) (hcs:cs.toList=Ly (r,t)) (hr:r.1.length=n)
  (hrow:Af B2 e1 1 w t r.2) (hB:B<=B2) (hlow:∀k,k ∈ Be (v::ss)->k<B2) (N:Nat) (hlen:rows.length+1<=N) (hN:N<=maxLen) (hbytes:N*bytes<=140737488355328) (hbase:B<=w.heap.size)
  (h:∀g cap w',Bi B e e1 n w' (.slice (some ⟨g,0,none⟩) (rows.length+1) cap) (rows++[r]) (ss++[t])->w.grownBy w' v.ownBlock->(∀W0:World,Ext W0 w->W0.heap.size<=B->Ext W0 w')->(∀(W0:World) (fs:List Nat),Upd W0 w fs->W0.heap.size<=B->Upd W0 w' fs)->K (a.put o.dst (.slice (some ⟨g,0,none⟩) (rows.length+1) cap)) w'):o.wp P a w K Q:=by
 obtain⟨len,ho'⟩:=hown.2.2.1
 have hnl:=Qa hown.1 hown.2.1
 have hle:len=rows.length:=by
  have h1:(Je rows ss).length=len*(n+1):=ho'.1
  rw[hnl] at h1
  exact(Nat.eq_of_mul_eq_mul_right oM h1).symm
 subst hle
 obtain⟨sa,sn,sc,rfl⟩:=hrow.shape
 have hcl:(Ly (r,.slice sa sn sc)).length=1*(n+1):=by simp[Ly,hr]
 refine wp_append_lies w s x ty ho B e i z (n+1) bytes ht hi hz hsize hby hzs oM v _ _ hs ho' ⟨b,0,none⟩ 1 1 (Ly (r,.slice sa sn sc)) hx hcl (fun j u hu=>?_) (nF _ rfl) oM oM (Nat.le_trans (Nat.mul_le_mul_right _ hlen) hbytes) hbase _ rfl (fun g cap w' h1 h2 h3 _=>h g cap w' ?_ h2 (fun W0 hW hB0=>Ext.own hW ⟨_,ho'⟩ hB0 h2) (fun W0 fs hW hB0=>Upd.own hW ⟨_,ho'⟩ hB0 h2))
 .
  rw[Jz,Nat.zero_add,hb.cell j]
  rw[<-hcs] at hu
  simpa using hu
 exact hown.snoc hr hrow hB hlow ⟨_,h1⟩ h2 (h3.elim (fun h=>.inl (by simp[Value.ownBlock] at h ⊢;exact h.symm)) (fun h=>.inr (by simp[Value.ownBlock,h])))
theorem bQ{ops:Array Oper}{rest:List Oper}{o:Oper}{a:Act}{Q:Exit->Act->World->Prop}(hgd:o.guard=none)(s x:Operand)(ty:TypeId)
  (ho:o.op=.call { callee:=.builtin .append,args:=#[s,x],argTypes:=#[ty,ty] })
  (i:TypeInfo) (z:Value) (bytes:Nat) (ht:P.underlying ty=some (.slice e)) (hi:P.info? e=some i) (hz:i.zero=some z)
  (hsize:i.size=n+1) (hby:i.bytes=bytes) (hzs:z.cells.size=n+1)
  (hs:a.eval s=v) (hown:Bi B e e1 n w v rows ss) (b:Nat) (hx:a.eval x=.slice (some ⟨b,0,none⟩) 1 1) (cs:Array Value) (hb:Blk w b e cs) (hcs:cs.toList=Ly (r,t)) (hr:r.1.length=n)
  (hrow:Af B2 e1 1 w t r.2) (hB:B<=B2) (hlow:∀k,k ∈ Be (v::ss)->k<B2) (N:Nat) (hlen:rows.length+1<=N) (hN:N<=maxLen) (hbytes:N*bytes<=140737488355328) (hbase:B<=w.heap.size)
  (h:∀g cap w',Bi B e e1 n w' (.slice (some ⟨g,0,none⟩) (rows.length+1) cap) (rows++[r]) (ss++[t])->w.grownBy w' v.ownBlock->(∀W0:World,Ext W0 w->W0.heap.size<=B->Ext W0 w')->(∀(W0:World) (fs:List Nat),Upd W0 w fs->W0.heap.size<=B->Upd W0 w' fs)->wpList P ops Q rest (a.put o.dst (.slice (some ⟨g,0,none⟩) (rows.length+1) cap)) w'):wpList P ops Q (o::rest) a w :=
 wpList_plain hgd fun _ hK=>Eu s x ty ho i z bytes ht hi hz hsize hby hzs hs hown b hx cs hb hcs hr hrow hB hlow N hlen hN hbytes hbase fun g cap w' h1 h2 h3 h4=>hK _ _ (h g cap w' h1 h2 h3 h4)
theorem Ys{ops:Array Oper}{o:Oper}{a:Act}{K:Act->World->Prop}{Q:Exit->Act->World->Prop}{E:Prop}(hgd:o.guard=none)(s x:Operand)(ty:TypeId)
  (ho:o.op=.call { callee:=.builtin .append,args:=#[s,x],argTypes:=#[ty,ty] })
  (i:TypeInfo) (z:Value) (bytes:Nat) (ht:P.underlying ty=some (.slice e)) (hi:P.info? e=some i) (hz:i.zero=some z)
  (hsize:i.size=n+1) (hby:i.bytes=bytes) (hzs:z.cells.size=n+1)
  (hs:a.eval s=v) (hown:Bi B e e1 n w v rows ss) (b:Nat) (hx:a.eval x=.slice (some ⟨b,0,none⟩) 1 1) (cs:Array Value) (hb:Blk w b e cs) (hcs:cs.toList=Ly (r,t)) (hr:r.1.length=n)
  (hrow:Af B2 e1 1 w t r.2) (hB:B<=B2) (hlow:∀k,k ∈ Be (v::ss)->k<B2) (N:Nat) (hlen:rows.length+1<=N) (hN:N<=maxLen) (hbytes:N*bytes<=140737488355328) (hbase:B<=w.heap.size)
  (h:∀g cap w',Bi B e e1 n w' (.slice (some ⟨g,0,none⟩) (rows.length+1) cap) (rows++[r]) (ss++[t])->w.grownBy w' v.ownBlock->(∀W0:World,Ext W0 w->W0.heap.size<=B->Ext W0 w')->(∀(W0:World) (fs:List Nat),Upd W0 w fs->W0.heap.size<=B->Upd W0 w' fs)->K (a.put o.dst (.slice (some ⟨g,0,none⟩) (rows.length+1) cap)) w') :
  if Region.wanted o (yielded ops a.tmps)=true then Oper.wp P o a w K Q else E:=by
 have hw:Region.wanted o (yielded ops a.tmps)=true:=by simp[Region.wanted,hgd]
 rw[if_pos hw]
 exact Eu s x ty ho i z bytes ht hi hz hsize hby hzs hs hown b hx cs hb hcs hr hrow hB hlow N hlen hN hbytes hbase h
theorem Bi.len(h:Bi B e e1 n w v rows ss):∃a cap,v=.slice a rows.length cap/\rows.length<=cap/\cap<=maxLen:=by
 obtain⟨a,len,cap,h2,h3,h4,h5,_⟩:=Own.open_ h.2.2.1
 rw[Qa h.1 h.2.1] at h3
 have:=Nat.eq_of_mul_eq_mul_right oM h3
 subst this
 exact⟨a,cap,h2,h4,h5⟩
theorem Bi.open_(h:Bi B e e1 n w v rows ss)(hp:0<rows.length):∃g cap cur,v=.slice (some ⟨g,0,none⟩) rows.length cap/\rows.length<=cap/\cap<=maxLen/\B<=g/\Blk w g e cur /\
  ∀i q u,rows[i]?=some q->ss[i]?=some u->(∀j y,q.1[j]?=some y->cur[i*(n+1)+j]?=some (.int .i64 y))/\cur[i*(n+1)+n]?=some u:=by
 obtain⟨a,len,cap,h2,h3,h4,h5,hcase⟩:=Own.open_ h.2.2.1
 have hnl:=Qa h.1 h.2.1
 have h3':=h3
 rw[hnl] at h3
 have:=Nat.eq_of_mul_eq_mul_right oM h3
 subst this
 rcases hcase with hz|⟨g,cur,rfl,hBg,hblk,hcsz,hpre⟩
 .
  omega
 refine⟨g,cap,cur,h2,h4,h5,hBg,hblk,fun i q u hq hu=>⟨fun j y hy=>?_,?_⟩⟩
 .
  have hj:j<q.1.length:=(List.getElem?_eq_some_iff.1 hy).1
  have hqn:=h.1 q (List.mem_of_getElem? hq)
  have h7:=cL (List.getElem?_eq_some_iff.1 hq).1 (n+1)
  rw[hpre _ oM]
  exact Zk h.1 hq hu hy
 have h7:=cL (List.getElem?_eq_some_iff.1 hq).1 (n+1)
 rw[hpre _ oM]
 exact cO h.1 hq hu
end
theorem Own.typed{B:Nat}{e:TypeId}{n:Nat}{w:World}{v:Value}{cs:List Value}(h:Own B e n w v cs){X:Nat}(hX:v.ownBlock=some X):∃cur,Blk w X e cur:=by
 obtain⟨len,h⟩:=h
 rcases h.2 with⟨h0,_⟩|⟨g,cap,cur,hv,hb,hg,_⟩
 .
  rw[h0] at hX;simp[Value.ownBlock] at hX
 rw[hv] at hX
 simp[Value.ownBlock] at hX
 subst hX
 exact⟨cur,hg⟩
theorem Blk.same{w:World}{X:Nat}{t t':TypeId}{a b:Array Value}(h:Blk w X t a)(k:Blk w X t' b):t=t':=by
 unfold Blk at h k
 rw[h] at k
 injection k with k;injection k with _ k
theorem Bi.typed{B:Nat}{e e1:TypeId}{n:Nat}{w:World}{v:Value}{rows:List Gn}{ss:List Value}(h:Bi B e e1 n w v rows ss){k:Nat}(hk:k ∈ Be (v::ss)):∃t cur,Blk w k t cur/\(t=e\/t=e1):=by
 simp only[Be,List.mem_filterMap] at hk
 obtain⟨u,hu,hf⟩:=hk
 rcases List.mem_cons.1 hu with rfl|hu
 .
  obtain⟨cur,hb⟩:=Own.typed h.2.2.1 hf
  exact⟨e,cur,hb,.inl rfl⟩
 obtain⟨i,hi⟩:=List.mem_iff_getElem?.1 hu
 have hlt:i<rows.length:=by have:=(List.getElem?_eq_some_iff.1 hi).1;have:=h.2.1;omega
 obtain⟨cur,hb⟩:=Own.typed (h.2.2.2.own i u rows[i] hi (List.getElem?_eq_getElem hlt)) hf
 exact⟨e1,cur,hb,.inr rfl⟩
theorem Af.typed{B:Nat}{e:TypeId}{n:Nat}{w:World}{v:Value}{xs:List Int}(h:Af B e n w v xs){k:Nat}(hk:k ∈ Be [v]):∃cur,Blk w k e cur:=by
 simp only[Be,List.mem_filterMap] at hk
 obtain⟨u,hu,hf⟩:=hk
 simp at hu;subst hu
 exact Own.typed h hf
theorem eE{B B':Nat}{e e2:TypeId}{n m:Nat}{w:World}{v v1:Value}{ys xs:List Int}(h:Af B e n w v ys)(h1:Af B' e2 m w v1 xs)(n1:e2≠e):∀k,k ∈ Be [v]->k ∈ Be [v1]->False:=by
 intro k hk hk1
 obtain⟨cur,hb⟩:=h.typed hk
 obtain⟨c2,hb2⟩:=h1.typed hk1
 exact n1 (hb2.same hb)
def Ml(w:World)(v:Value)(s:Fl):Prop:=∃t2 t3:Value,v=.agg #[.int .i64 s.Index,.int .i64 s.Time,t2,t3,.int .i64 s.Lease.Holder,.int .i64 s.Lease.Epoch,.int .i64 s.Lease.Until]/\Aj 2 w t2 (Dp s.Pairs)/\Aj 5 w t3 (Fj s.Jobs)
def Iv(B:Nat)(w:World)(v:Value)(s:Fl)(F:List Nat):Prop:=∃t2 t3:Value,v=.agg #[.int .i64 s.Index,.int .i64 s.Time,t2,t3,.int .i64 s.Lease.Holder,.int .i64 s.Lease.Epoch,.int .i64 s.Lease.Until]/\Af B 362 2 w t2 (Dp s.Pairs)/\Af B 366 5 w t3 (Fj s.Jobs)/\F=Be [t2]++Be [t3]
def eF(B:Nat)(w:World)(v:Value)(s:Fl)(F:List Nat)(q:Int):Prop:=∃t2 t3:Value,v=.agg #[.int .i64 s.Index,.int .i64 s.Time,t2,t3,.int .i64 s.Lease.Holder,.int .i64 s.Lease.Epoch,.int .i64 s.Lease.Until]/\Af B 362 2 w t2 (run q (s.Pairs.length*2))/\Af B 366 5 w t3 (run (q+(s.Pairs.length*2:Nat)) (s.Jobs.length*5))/\F=Be [t2]++Be [t3]
section
variable {B B':Nat} {w w':World} {v:Value} {s s':Fl} {F:List Nat} {q:Int}
theorem Gx.keep(h:Gx B w v s)(x:Chg B w w'):Gx B w' v s:=let ⟨t2,t3,e,h2,h3⟩:=h;⟨t2,t3,e,h2.keep x,h3.keep x⟩
theorem Gx.mono(h:Gx B w v s)(x:B'<=B):Gx B' w v s:=let ⟨t2,t3,e,h2,h3⟩:=h;⟨t2,t3,e,h2.mono x,h3.mono x⟩
theorem Gx.ext(h:Gx B w v s)(x:Ext w w'):Gx B w' v s:=let ⟨t2,t3,e,h2,h3⟩:=h;⟨t2,t3,e,Own.ext h2 x,Own.ext h3 x⟩
theorem Gx.ow(h:Gx B w v s):∃F,Iv B w v s F:=let ⟨t2,t3,e,h2,h3⟩:=h;⟨_,t2,t3,e,h2,h3,rfl⟩
theorem Gx.rd(h:Gx B w v s):Ml w v s:=let ⟨t2,t3,e,h2,h3⟩:=h;⟨t2,t3,e,h2.ints,h3.ints⟩
theorem Ml.shape(h:Ml w v s):∃a2 n2 k2 a3 n3 k3,v=.agg #[.int .i64 s.Index,.int .i64 s.Time,.slice a2 n2 k2,.slice a3 n3 k3,.int .i64 s.Lease.Holder,.int .i64 s.Lease.Epoch,.int .i64 s.Lease.Until]:=by
 obtain⟨t2,t3,rfl,h2,h3⟩:=h
 obtain⟨a2,n2,k2,rfl⟩:=h2.shape
 obtain⟨a3,n3,k3,rfl⟩:=h3.shape
 exact⟨a2,n2,k2,a3,n3,k3,rfl⟩
theorem Ml.ext(h:Ml w v s)(x:Ext w w'):Ml w' v s:=let ⟨t2,t3,e,h2,h3⟩:=h;⟨t2,t3,e,h2.ext x,h3.ext x⟩
theorem Iv.rd(h:Iv B w v s F):Ml w v s:=let ⟨t2,t3,e,h2,h3,_⟩:=h;⟨t2,t3,e,h2.ints,h3.ints⟩
theorem Iv.is(h:Iv B w v s F):Gx B w v s:=let ⟨t2,t3,e,h2,h3,_⟩:=h;⟨t2,t3,e,h2,h3⟩
theorem Iv.ext(h:Iv B w v s F)(x:Ext w w'):Iv B w' v s F:=let ⟨t2,t3,e,h2,h3,hF⟩:=h;⟨t2,t3,e,Own.ext h2 x,Own.ext h3 x,hF⟩
theorem Iv.keep(h:Iv B w v s F)(x:Chg B w w'):Iv B w' v s F:=let ⟨t2,t3,e,h2,h3,hF⟩:=h;⟨t2,t3,e,h2.keep x,h3.keep x,hF⟩
theorem Iv.mono(h:Iv B w v s F)(x:B'<=B):Iv B' w v s F:=let ⟨t2,t3,e,h2,h3,hF⟩:=h;⟨t2,t3,e,h2.mono x,h3.mono x,hF⟩
theorem Iv.upd(h:Iv B w v s F){fs:List Nat}(x:Upd w w' fs)(hn:∀k,k ∈ F->k ∈ fs->False):Iv B w' v s F:=by
 obtain⟨t2,t3,e,h2,h3,rfl⟩:=h
 exact⟨t2,t3,e,Af.upd' h2 x (fun k h=>hn k (List.mem_append_left _ h)),Af.upd' h3 x (fun k h=>hn k (List.mem_append_right _ h)),rfl⟩
theorem Iv.low(h:Iv B w v s F):∀k,k ∈ F->B<=k/\k<w.heap.size:=by
 obtain⟨t2,t3,e,h2,h3,rfl⟩:=h
 intro k hk
 rcases List.mem_append.1 hk with h|h
 .
  exact h2.foot k h
 exact h3.foot k h
theorem eF.ext(h:eF B w v s F q)(x:Ext w w'):eF B w' v s F q:=let ⟨t2,t3,e,h2,h3,hF⟩:=h;⟨t2,t3,e,Own.ext h2 x,Own.ext h3 x,hF⟩
end
def Vk(w:World)(v:Value)(s:cM):Prop:=∃t2 t3:Value,v=.agg #[.int .i64 s.Num,.int .i64 s.State.Index,.int .i64 s.State.Time,t2,t3,.int .i64 s.State.Lease.Holder,.int .i64 s.State.Lease.Epoch,.int .i64 s.State.Lease.Until]/\Aj 2 w t2 (Dp s.State.Pairs)/\Aj 5 w t3 (Fj s.State.Jobs)
def Ks(B:Nat)(w:World)(v:Value)(s:cM)(F:List Nat):Prop:=∃t2 t3:Value,v=.agg #[.int .i64 s.Num,.int .i64 s.State.Index,.int .i64 s.State.Time,t2,t3,.int .i64 s.State.Lease.Holder,.int .i64 s.State.Lease.Epoch,.int .i64 s.State.Lease.Until]/\Af B 362 2 w t2 (Dp s.State.Pairs)/\Af B 366 5 w t3 (Fj s.State.Jobs)/\F=Be [t2]++Be [t3]
def jZ(B:Nat)(w:World)(v:Value)(s:cM)(F:List Nat)(q:Int):Prop:=∃t2 t3:Value,v=.agg #[.int .i64 s.Num,.int .i64 s.State.Index,.int .i64 s.State.Time,t2,t3,.int .i64 s.State.Lease.Holder,.int .i64 s.State.Lease.Epoch,.int .i64 s.State.Lease.Until]/\Af B 362 2 w t2 (run q (s.State.Pairs.length*2))/\Af B 366 5 w t3 (run (q+(s.State.Pairs.length*2:Nat)) (s.State.Jobs.length*5))/\F=Be [t2]++Be [t3]
section
variable {B B':Nat} {w w':World} {v:Value} {s s':cM} {F:List Nat} {q:Int}
theorem Km.keep(h:Km B w v s)(x:Chg B w w'):Km B w' v s:=let ⟨t2,t3,e,h2,h3⟩:=h;⟨t2,t3,e,h2.keep x,h3.keep x⟩
theorem Km.mono(h:Km B w v s)(x:B'<=B):Km B' w v s:=let ⟨t2,t3,e,h2,h3⟩:=h;⟨t2,t3,e,h2.mono x,h3.mono x⟩
theorem Km.ext(h:Km B w v s)(x:Ext w w'):Km B w' v s:=let ⟨t2,t3,e,h2,h3⟩:=h;⟨t2,t3,e,Own.ext h2 x,Own.ext h3 x⟩
theorem Km.ow(h:Km B w v s):∃F,Ks B w v s F:=let ⟨t2,t3,e,h2,h3⟩:=h;⟨_,t2,t3,e,h2,h3,rfl⟩
theorem Km.rd(h:Km B w v s):Vk w v s:=let ⟨t2,t3,e,h2,h3⟩:=h;⟨t2,t3,e,h2.ints,h3.ints⟩
theorem Vk.shape(h:Vk w v s):∃a2 n2 k2 a3 n3 k3,v=.agg #[.int .i64 s.Num,.int .i64 s.State.Index,.int .i64 s.State.Time,.slice a2 n2 k2,.slice a3 n3 k3,.int .i64 s.State.Lease.Holder,.int .i64 s.State.Lease.Epoch,.int .i64 s.State.Lease.Until]:=by
 obtain⟨t2,t3,rfl,h2,h3⟩:=h
 obtain⟨a2,n2,k2,rfl⟩:=h2.shape
 obtain⟨a3,n3,k3,rfl⟩:=h3.shape
 exact⟨a2,n2,k2,a3,n3,k3,rfl⟩
theorem Vk.ext(h:Vk w v s)(x:Ext w w'):Vk w' v s:=let ⟨t2,t3,e,h2,h3⟩:=h;⟨t2,t3,e,h2.ext x,h3.ext x⟩
theorem Ks.rd(h:Ks B w v s F):Vk w v s:=let ⟨t2,t3,e,h2,h3,_⟩:=h;⟨t2,t3,e,h2.ints,h3.ints⟩
theorem Ks.is(h:Ks B w v s F):Km B w v s:=let ⟨t2,t3,e,h2,h3,_⟩:=h;⟨t2,t3,e,h2,h3⟩
theorem Ks.ext(h:Ks B w v s F)(x:Ext w w'):Ks B w' v s F:=let ⟨t2,t3,e,h2,h3,hF⟩:=h;⟨t2,t3,e,Own.ext h2 x,Own.ext h3 x,hF⟩
theorem Ks.keep(h:Ks B w v s F)(x:Chg B w w'):Ks B w' v s F:=let ⟨t2,t3,e,h2,h3,hF⟩:=h;⟨t2,t3,e,h2.keep x,h3.keep x,hF⟩
theorem Ks.mono(h:Ks B w v s F)(x:B'<=B):Ks B' w v s F:=let ⟨t2,t3,e,h2,h3,hF⟩:=h;⟨t2,t3,e,h2.mono x,h3.mono x,hF⟩
theorem Ks.upd(h:Ks B w v s F){fs:List Nat}(x:Upd w w' fs)(hn:∀k,k ∈ F->k ∈ fs->False):Ks B w' v s F:=by
 obtain⟨t2,t3,e,h2,h3,rfl⟩:=h
 exact⟨t2,t3,e,Af.upd' h2 x (fun k h=>hn k (List.mem_append_left _ h)),Af.upd' h3 x (fun k h=>hn k (List.mem_append_right _ h)),rfl⟩
theorem Ks.low(h:Ks B w v s F):∀k,k ∈ F->B<=k/\k<w.heap.size:=by
 obtain⟨t2,t3,e,h2,h3,rfl⟩:=h
 intro k hk
 rcases List.mem_append.1 hk with h|h
 .
  exact h2.foot k h
 exact h3.foot k h
theorem jZ.ext(h:jZ B w v s F q)(x:Ext w w'):jZ B w' v s F q:=let ⟨t2,t3,e,h2,h3,hF⟩:=h;⟨t2,t3,e,Own.ext h2 x,Own.ext h3 x,hF⟩
end
def Xj(w:World)(v:Value)(l:List (List Int)):Prop:=Ck 0 w v (Ac l)
def Ju(B:Nat)(w:World)(v:Value)(l:List (List Int))(F:List Nat):Prop:=∃ss:List Value,Bi B 62 2 0 w v (Ac l) ss/\F=Be (v::ss)
def kC(B:Nat)(w:World)(v:Value)(l:List (List Int))(F:List Nat)(q:Int):Prop:=∃ss:List Value,Bi B 62 2 0 w v (Zl 0 q (Ac l)) ss/\F=Be (v::ss)
section
variable {B B':Nat} {w w':World} {v:Value} {l:List (List Int)} {F:List Nat} {q:Int}
theorem Xj.shape(h:Xj w v l):∃a n k,v=.slice a n k:=Ck.shape h
theorem Xj.ext(h:Xj w v l)(x:Ext w w'):Xj w' v l:=Ck.ext h x
theorem Ju.of(h:Hw B 62 2 0 w v (Ac l)):∃F,Ju B w v l F:=let ⟨ss,h⟩:=h;⟨_,ss,h,rfl⟩
theorem Ju.rd(h:Ju B w v l F):Xj w v l:=let ⟨_,h,_⟩:=h;h.nest
theorem Ju.ext(h:Ju B w v l F)(x:Ext w w'):Ju B w' v l F:=let ⟨s,h,e⟩:=h;⟨s,h.ext x,e⟩
theorem Ju.keep(h:Ju B w v l F)(x:Chg B w w'):Ju B w' v l F:=let ⟨s,h,e⟩:=h;⟨s,h.keep x,e⟩
theorem Ju.mono(h:Ju B w v l F)(x:B'<=B):Ju B' w v l F:=let ⟨s,h,e⟩:=h;⟨s,h.mono x,e⟩
theorem Ju.upd(h:Ju B w v l F){fs:List Nat}(x:Upd w w' fs)(hn:∀k,k ∈ F->k ∈ fs->False):Ju B w' v l F:=by
 obtain⟨s,h,rfl⟩:=h
 exact⟨s,h.upd x hn,rfl⟩
theorem Ju.low(h:Ju B w v l F):∀k,k ∈ F->B<=k/\k<w.heap.size:=by
 obtain⟨s,h,rfl⟩:=h
 exact h.foot
theorem kC.ext(h:kC B w v l F q)(x:Ext w w'):kC B w' v l F q:=let ⟨s,h,e⟩:=h;⟨s,h.ext x,e⟩
end
theorem Ln(w:World)(Dl:Value)(Ad:List Int)(Dk:Aj 1 w Dl Ad)(e0:Ad.length<=1000000):Calls Tryz.prog 422 #[Dl] w (Ret w fun r0 w'=>Af w.heap.size 2 1 w' r0 Ad):=by
 obtain⟨a0,n0,k0,rfl⟩:=Dk.shape
 obtain⟨i0,hi,hz0,hz1,hz2⟩:=info_parts Ec
 go_enter Tryz.func422,Tryz.ntmps422
 go_wp2_with (first|(at_builtin;refine Kx rfl (.tmp 3) (.tmp 4) 62 rfl 2 i0 _ 1 8 Tryz.underlying62 hi hz0 hz1 hz2 rfl dC w.heap.size (by simp) rfl (.slice a0 n0 k0) (Ad.map (.int .i64)) rfl Dk (ints_oneCell _ _) 1000000 (by simp;omega) (by unfold maxLen;omega) oM ?_;rotate_right;intro t5 w1 g5 hx1;obtain⟨ta5,tn5,tc5,rfl⟩:=g5.sl.shape))
 go_ret
 exact⟨_,rfl,hx1,g5⟩
theorem Po(w:World)(Dl:Value)(Ad:List Int)(Dk:Aj 1 w Dl Ad)(e0:Ad.length<=1000000):Calls Tryz.prog 420 #[Dl] w (Ret w fun r0 w'=>Af w.heap.size 2 1 w' r0 Ad):=by
 obtain⟨a0,n0,k0,rfl⟩:=Dk.shape
 obtain⟨i0,hi,hz0,hz1,hz2⟩:=info_parts Ec
 go_enter Tryz.func420,Tryz.ntmps420
 go_wp2_with (first|(at_builtin;refine Kx rfl (.tmp 3) (.tmp 4) 62 rfl 2 i0 _ 1 8 Tryz.underlying62 hi hz0 hz1 hz2 rfl dC w.heap.size (by simp) rfl (.slice a0 n0 k0) (Ad.map (.int .i64)) rfl Dk (ints_oneCell _ _) 1000000 (by simp;omega) (by unfold maxLen;omega) oM ?_;rotate_right;intro t5 w1 g5 hx1;obtain⟨ta5,tn5,tc5,rfl⟩:=g5.sl.shape))
 go_ret
 exact⟨_,rfl,hx1,g5⟩
theorem Zr(l:List (List Int))(r:List Int):Ac (l++[r])=Ac l++[([],r)]:=by simp[Ac]
theorem Ih(l:List Eb)(d:Eb):Ah (l++[d])=Ah l++[([d.At],d.Row)]:=by simp[Ah]
theorem Ext.row{W0 w w':World}{B n:Nat}{e e1:TypeId}{v:Value}{rows:List Gn}{ss:List Value}(h:Ext W0 w)(hown:Bi B e e1 n w v rows ss)(hB:W0.heap.size<=B)(hg:w.grownBy w' v.ownBlock):Ext W0 w':=Ext.own h hown.2.2.1 hB hg
theorem Bi.made0(w:World)(e e1:TypeId)(n cap:Nat)(cur:Array Value)(hs:cur.size=cap*(n+1))(hm:cap<=maxLen):Bi w.heap.size e e1 n (w.alloc (.cells cur e)) (.slice (some ⟨w.heap.size,0,none⟩) 0 cap) [] [] :=
 ⟨fun r h=>by simp at h,rfl,Own.of_blk (Blk.new _ _ _) (Nat.le_refl _) hs (by simp[Je]) (Nat.zero_le _) hm (by simpa using Pre.zero _ _),⟨fun i s r h=>by simp at h,fun i j s t k _ h=>by simp at h,fun i s k h=>by simp at h⟩⟩
theorem kD(w:World)(Dl:Value)(Ad:List (List Int))(Dk:Ck 0 w Dl (Ac Ad))(e0:Ad.length<=1000000)(e1:∀r,r ∈ Ad->r.length<=1000000):Calls Tryz.prog 428 #[Dl] w (Ret w fun r0 w'=>∃ss:List Value,Bi w.heap.size 62 2 0 w' r0 (Ac Ad) ss):=by
 obtain⟨a,cap,rfl,hcap,hm,ha⟩:=Ck.rows Dk
 have HA:=Lib.hid ha
 have HE:=Lib.hid e1
 clear ha e1
 unfold maxLen at hm
 obtain⟨i0,hi,hz0,hz1,hz2⟩:=info_parts Ol
 have hmk:=fun W=>run_make (P:=Tryz.prog) W 22 62 i0 _ Tryz.underlying22 hi hz0 .i64 .i64 0 Ad.length oM oM (by rw[hz2];omega) oM
 simp only[Int.toNat_natCast,Int.toNat_zero] at hmk
 have hsz:(madeCells (Value.slice none 0 0).cells (Ad.length*i0.size)).size=Ad.length*(0+1):=by rw[size_madeCells,hz1]
 generalize madeCells (Value.slice none 0 0).cells (Ad.length*i0.size)=mc at hmk hsz
 have hown0:=Bi.made0 w 62 2 0 Ad.length mc hsz (by unfold maxLen;omega)
 go_enter Tryz.func428,Tryz.ntmps428
 go_wp2
 clear hmk
 go_loopw [11,3] (fun i s wr=>∃k:Nat,k<=Ad.length/\i=.int .i64 k/\Ext w wr/\∃ss:List Value,Bi w.heap.size 62 2 0 wr s (Ac (Ad.take k)) ss) (fun i _ _=>Ad.length - (intOf i).toNat)
 case atStart=>exact⟨0,Nat.zero_le _,rfl,(Ext.refl _).alloc _,[],by simpa[Ac] using hown0⟩
 case round =>
  obtain⟨k,hk,rfl,he,ss,hown⟩:=hrel
  obtain⟨oa,on,oc,rfl⟩:=hown.nest.shape
  have hln:(Ac (Ad.take k)).length=k:=by simp[Ac];omega
  have HLN:=Lib.hid hln
  have hsz1:=he.size
  by_cases hlt:k<Ad.length
  .
   obtain⟨r,b1,o1,sa,sn,sc,hr,rfl,hb1,c0,hin⟩:=HA.out k hlt
   have d0:=he.cell c0
   have HR:=Lib.hid hr
   have HO:=Lib.hid hown
   have hrl:=HE.out r (List.mem_of_getElem? hr)
   clear hr c0 hown hln
   go_wp2_with (first|(go_at_call 420;refine(Po _ _ _ (hin.ext he) hrl).mono ?_;rintro e w1 ⟨_,rfl,hx1,g1⟩;obtain⟨ta,tn,tc,rfl⟩:=g1.shape;have hsz2:=hx1.size)|(at_builtin;refine bQ (n:=0) (r:=([],r)) rfl _ _ 22 rfl i0 _ 24 Tryz.underlying22 hi hz0 hz1 hz2 rfl rfl ((HO.out.ext hx1).ext ((Ext.refl _).alloc _)) w1.heap.size rfl _ (Blk.new _ _ _) rfl rfl (g1.ext ((Ext.refl _).alloc _)) oM (fun k hk=>(HO.out.foot k hk).2) 1000001 (by have:=HLN.out;omega) (by unfold maxLen;omega) oM (by simp;omega) ?_;rotate_right;intro g cp wa hown1 hga hxa _))
   go_roundw
   case rel =>
    refine⟨k+1,by omega,by go_num,hxa w ((he.trans hx1).alloc _) (Nat.le_refl _),ss++[.slice ta tn tc],?_⟩
    have h9:=hown1
    rw[Ic HR.out,Zr]
    exact h9
   case measure=>simp[intOf];omega
  obtain rfl:k=Ad.length:=by omega
  rw[List.take_length] at hown
  have HO:=Lib.hid hown
  clear hown hln
  go_wp2
  go_ret
  exact⟨_,rfl,he,ss,HO.out⟩
def Ug(row old:List Int):List Int:=row.take (row.length / 2)++old.drop (row.length / 2)
theorem gX{row old:List Int}(h1:row.length<=48)(h2:old.length<=48):(Ug row old).length<=48:=by
 simp only[Ug,List.length_append,List.length_take,List.length_drop];omega
theorem Sl.sliced{n:Nat}{w:World}{a:Option Addr}{len cap:Nat}{cs:List Value}(h:Sl n w (.slice a len cap) cs){l m:Nat}(h1:l<=m)(h2:m<=len):Sl n w (Go.sliced a l m cap n) ((cs.take (m*n)).drop (l*n)):=by
 obtain⟨a',len',cap',e,hl,hlc,hcm,hnil,hc⟩:=h
 injection e with e1 e2 e3
 subst e1;subst e2;subst e3
 unfold Go.sliced
 refine⟨_,_,_,rfl,?_,by omega,by omega,?_,?_⟩
 .
  have h5:=Nat.mul_le_mul_right n h2
  simp only[List.length_drop,List.length_take,Nat.sub_mul]
  omega
 .
  intro h
  split at h
  .
   omega
  rw[Option.map_eq_none_iff] at h
  have:=hnil h
  omega
 intro b off sp h h0
 rw[if_neg oM,Option.map_eq_some_iff] at h
 obtain⟨⟨b',off',sp'⟩,rfl,h4⟩:=h
 obtain⟨rfl,hb,hcell⟩:=hc b' off' sp' rfl oM
 rw[Jz] at h4
 injection h4 with h5 h6 h7
 subst h5;subst h6;subst h7
 refine⟨rfl,hb,fun i u hu=>?_⟩
 rw[Nat.add_assoc]
 apply hcell
 rw[List.getElem?_drop] at hu
 rw[List.getElem?_take] at hu
 split at hu
 .
  exact hu
 cases hu
theorem Aj.take{w:World}{a:Option Addr}{len cap:Nat}{xs:List Int}(h:Aj 1 w (.slice a len cap) xs){m:Nat}(h2:m<=len):Aj 1 w (.slice a m cap) (xs.take m):=by
 obtain⟨a',len',cap',e,hl,hlc,hcm,hnil,hc⟩:=h
 injection e with e1 e2 e3
 subst e1;subst e2;subst e3
 refine⟨_,_,_,rfl,by simp at hl ⊢;omega,by omega,hcm,hnil,fun b off sp h h0=>?_⟩
 obtain⟨h3,h4,h5⟩:=hc b off sp h oM
 refine⟨h3,h4,fun i u hu=>h5 i u ?_⟩
 rw[List.map_take,List.getElem?_take] at hu
 split at hu
 .
  exact hu
 cases hu
theorem Aj.sliced{w:World}{a:Option Addr}{len cap:Nat}{xs:List Int}(h:Aj 1 w (.slice a len cap) xs){l m:Nat}(h1:l<=m)(h2:m<=len):Aj 1 w (Go.sliced a l m cap 1) ((xs.take m).drop l):=by
 have:=Sl.sliced h h1 h2
 simp only[Nat.mul_one,<-List.map_take,<-List.map_drop] at this
 exact this
theorem Aj.drop{w:World}{a:Option Addr}{cap:Nat}{xs:List Int}(h:Aj 1 w (.slice a xs.length cap) xs){m:Nat}(h1:m<xs.length)(h2:xs.length<=cap):Aj 1 w (.slice (a.map (fun x=>x.add m)) (xs.length - m) (cap - m)) (xs.drop m):=by
 have:=h.sliced (l:=m) (Nat.le_of_lt h1) (Nat.le_refl _)
 rw[List.take_length] at this
 unfold Go.sliced at this
 rw[if_neg oM,Nat.mul_one] at this
 exact this
theorem pF(w:World)(Dl:Value)(Ad:List Int)(rZ:Value)(sC:List Int)(Dk:Aj 1 w Dl Ad)(uE:Aj 1 w rZ sC)(e0:Ad.length<=1000)(e1:sC.length<=1000):Calls Tryz.prog 429 #[Dl,rZ] w (Ret w fun r0 w'=>Af w.heap.size 2 1 w' r0 (Ug Ad sC)):=by
 obtain⟨a0,cap0,rfl,hc0,hm0,_⟩:=Dk.one
 obtain⟨a1,cap1,rfl,hc1,hm1,_⟩:=uE.one
 unfold maxLen at hm0 hm1
 obtain⟨i0,hi,hz0,hz1,hz2⟩:=info_parts Ec
 have hq:(Ad.length:Int).tdiv 2=((Ad.length / 2:Nat):Int):=rfl
 obtain⟨m,hm⟩:∃m,m=Ad.length / 2:=⟨_,rfl⟩
 rw[<-hm] at hq
 have hml:m<=Ad.length:=by omega
 have HM:=Lib.hid hm
 clear hm
 go_enter Tryz.func429,Tryz.ntmps429
 by_cases hlt:m<sC.length
 .
  go_wp2_with (first|(go_at_call 422;refine(Ln _ _ _ (Dk.take hml) (by simp;omega)).mono ?_;rintro e w1 ⟨_,rfl,hx1,g1⟩;obtain⟨ta,tn,tc,rfl⟩:=g1.shape;have hsz1:=hx1.size)|(at_builtin;refine Fg rfl (.tmp 18) (.tmp 21) 62 rfl 2 i0 _ 1 8 Tryz.underlying62 hi hz0 hz1 hz2 rfl dC w.heap.size _ _ rfl g1 _ ((sC.drop m).map (.int .i64)) rfl ((uE.drop hlt hc1).ext hx1) (ints_oneCell _ _) 100000 (by simp;omega) (by unfold maxLen;omega) oM oM w hx1 (Nat.le_refl _) ?_;rotate_right;intro v1 wa hown1 hea _))
  go_ret
  refine⟨_,rfl,hea,?_⟩
  unfold Ug
  rw[<-HM.out]
  simpa[Af] using hown1
 go_wp2_with (first|(go_at_call 422;refine(Ln _ _ _ (Dk.take hml) (by simp;omega)).mono ?_;rintro e w1 ⟨_,rfl,hx1,g1⟩;obtain⟨ta,tn,tc,rfl⟩:=g1.shape;have hsz1:=hx1.size))
 go_ret
 refine⟨_,rfl,hx1,?_⟩
 unfold Ug
 rw[<-HM.out,List.drop_eq_nil_of_le oM,List.append_nil]
 exact g1
end Go.Proofs.YtkpmbocbbgocbaaGreat
