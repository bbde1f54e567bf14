/- Q5 Q6 Q7 KB. -/
import Derived.Test.YtkpmbocbbgocbaaGreatPGw
import Derived.Test.YtkpmbocbbgocbaaGreatPGu
set_option linter.unusedSimpArgs false
set_option linter.unusedVariables false
set_option maxHeartbeats 8000000
set_option maxRecDepth 100000
namespace Go.Proofs.YtkpmbocbbgocbaaGreat
open Go.RowKit Go.G8
theorem bG6(l:List (List Int))(k:Nat)(r:List Int):Bd (l.set k r)=(Bd l).set k ([],r):=by simp[Bd,List.map_set]
theorem bR3{v s:Value}{l:List Value}{i f:Nat}(h:f ∈ Ep (v::l.set i s)):f ∈ Ep (v::l)\/f ∈ Ep [s]:=by
 simp only[Ep,List.mem_filterMap] at h ⊢
 obtain⟨x,hx,hf⟩:=h
 rcases List.mem_cons.1 hx with rfl|hx
 .
  exact .inl ⟨x,by simp,hf⟩
 rcases List.mem_or_eq_of_mem_set hx with h1|rfl
 .
  exact .inl ⟨x,by simp[h1],hf⟩
 exact .inr ⟨x,by simp,hf⟩
def Mv(B:Nat)(e e1 e2:TypeId)(w:World)(g n c:Nat)(kept:List (List Int))(v1:Value)(wait:List AG)(ss1:List Value)(k:Nat):Prop :=
 ∃ss:List Value,Px B e e1 0 w (.slice (some ⟨g,0,none⟩) n c) (Bd kept) ss/\Px B e2 e1 1 w v1 (Dq wait) ss1/\g ∉ Ep (v1::ss1) /\
  ∀(j:Nat) (s:Value) (f:Nat),k<=j->ss1[j]?=some s->f ∈ Ep [s]->f ∈ Ep (.slice (some ⟨g,0,none⟩) n c::ss)->False
section
variable {B:Nat} {e e1 e2:TypeId} {w w':World} {g n c:Nat} {kept:List (List Int)} {v1:Value} {wait:List AG} {ss1:List Value} {k:Nat}
theorem Mv.ext(h:Mv B e e1 e2 w g n c kept v1 wait ss1 k)(x:Ext w w'):Mv B e e1 e2 w' g n c kept v1 wait ss1 k:=by
 obtain⟨ss,h0,h1,hg,hd⟩:=h
 exact⟨ss,h0.ext x,h1.ext x,hg,hd⟩
theorem Mv.keep(h:Mv B e e1 e2 w g n c kept v1 wait ss1 k)(x:Chg B w w'):Mv B e e1 e2 w' g n c kept v1 wait ss1 k:=by
 obtain⟨ss,h0,h1,hg,hd⟩:=h
 exact⟨ss,h0.keep x,h1.keep x,hg,hd⟩
theorem Mv.skip(h:Mv B e e1 e2 w g n c kept v1 wait ss1 k):Mv B e e1 e2 w g n c kept v1 wait ss1 (k+1):=by
 obtain⟨ss,h0,h1,hg,hd⟩:=h
 exact⟨ss,h0,h1,hg,fun j s f hj=>hd j s f oM⟩
theorem Mv.low(h:Mv B e e1 e2 w g n c kept v1 wait ss1 k):B<=g/\g<w.heap.size:=by
 obtain⟨ss,h0,h1,hg,hd⟩:=h
 exact h0.foot g (by simp[Ep,Value.ownBlock])
theorem Mv.fresh{w0:World}(h:Mv B e e1 e2 w0 g n c kept v1 wait ss1 k)(x:Ext w0 w){s:Value}{xs:List Int}(hs:Ba w0.heap.size e1 1 w s xs)(hB:B<=w0.heap.size){p:Nat}(hp:p<kept.length):Mv B e e1 e2 (w.setCell ⟨g,p,none⟩ s) g n c (kept.set p xs) v1 wait ss1 (k+1):=by
 obtain⟨ss,h0,h1,hg,hdd⟩:=h
 have hr:(Bd kept)[p]?=some ([],kept[p]):=by simp[Bd,hp]
 have hfs:∀f,f ∈ Ep [s]->w0.heap.size<=f:=by
  intro f hf
  simp only[Ep,List.mem_filterMap] at hf
  obtain⟨u,hu,hf⟩:=hf
  simp at hu;subst hu
  exact(Own.lt hs hf).1
 have hset:=(h0.ext x).set_slice hr (t:=s) (xs:=xs) (hs.mono hB) (fun i u f hi hu hf1 hf2=>by
  have:=(h0.foot f (OY hu hf1)).2;have:=hfs f hf2;omega) (fun hgs=>by
  have:=(h0.foot g (by simp[Ep,Value.ownBlock])).2;have:=hfs g hgs;omega)
 refine⟨ss.set p s,by rw[bG6];simpa using hset,(h1.ext x).upd (fs:=[g]) ((Upd.refl _ _).setCell (by simp) _) (fun f hf1 hf2=>hg (by simp at hf2;exact hf2 ▸ hf1)),hg,fun j u f hj hu hf1 hf2=>?_⟩
 rcases bR3 hf2 with h3|h3
 .
  exact hdd j u f oM hu hf1 h3
 have:=(h1.foot f (OY hu hf1)).2;have:=hfs f h3;omega
end
section
variable {B B':Nat} {w w':World} {v:Value} {d d':EI}
theorem IJ.keep(h:IJ B w v d)(x:Chg B w w'):IJ B w' v d:=let ⟨t0,t1,s0,s1,e,h0,h1,hd⟩:=h;⟨t0,t1,s0,s1,e,h0.keep x,h1.keep x,hd⟩
theorem IJ.ext(h:IJ B w v d)(x:Ext w w'):IJ B w' v d:=let ⟨t0,t1,s0,s1,e,h0,h1,hd⟩:=h;⟨t0,t1,s0,s1,e,h0.ext x,h1.ext x,hd⟩
theorem IJ.mono(h:IJ B w v d)(x:B'<=B):IJ B' w v d:=let ⟨t0,t1,s0,s1,e,h0,h1,hd⟩:=h;⟨t0,t1,s0,s1,e,h0.mono x,h1.mono x,hd⟩
theorem IJ.shape(h:IJ B w v d):∃a0 n0 k0 a1 n1 k1,v=.agg #[.slice a0 n0 k0,.slice a1 n1 k1]:=by
 obtain⟨t0,t1,s0,s1,rfl,h0,h1,hd⟩:=h
 obtain⟨a0,n0,k0,rfl⟩:=h0.nest.shape
 obtain⟨a1,n1,k1,rfl⟩:=h1.nest.shape
 exact⟨a0,n0,k0,a1,n1,k1,rfl⟩
theorem IJ.nil(B:Nat)(w:World):IJ B w (.agg #[.slice none 0 0,.slice none 0 0]) ⟨[],[]⟩:=⟨_,_,[],[],rfl,Px.nil _ _ _ _ _,Px.nil _ _ _ _ _,by simp[Ep,Value.ownBlock]⟩
theorem IJ.cast(h:IJ B w v d)(e:d=d'):IJ B w v d':=e ▸ h
end
theorem Px.no{B:Nat}{e e1:TypeId}{n:Nat}{w:World}{v:Value}{rows:List wK}{ss:List Value}(h:Px B e e1 n w v rows ss){X:Nat}{t:TypeId}{a:Array Value}(hX:Blk w X t a)(h1:t≠e)(h2:t≠e1):X ∉ Ep (v::ss):=by
 intro hf
 simp only[Ep,List.mem_filterMap] at hf
 obtain⟨u,hu,hf⟩:=hf
 rcases List.mem_cons.1 hu with rfl|hu
 .
  obtain⟨cur,hb⟩:=Own.typed h.2.2.1 hf
  exact h1 (hX.same hb)
 obtain⟨i,hi⟩:=List.mem_iff_getElem?.1 hu
 have hlt:i<rows.length:=by have:=(List.getElem?_eq_some_iff.1 hi).1;have:=h.2.1;omega
 obtain⟨cur,hb⟩:=Own.typed (h.2.2.2.own i u rows[i] hi (List.getElem?_eq_getElem hlt)) hf
 exact h2 (hX.same hb)
theorem Px.box{B:Nat}{e e1:TypeId}{n:Nat}{w:World}{v:Value}{rows:List wK}{ss:List Value}(h:Px B e e1 n w v rows ss){X:Nat}{t:TypeId}{a:Array Value}(hX:Blk w X t a)(h1:t≠e)(h2:t≠e1)(i:Nat)(u:Value):Px B e e1 n (w.setCell ⟨X,i,none⟩ u) v rows ss :=
 h.upd (fs:=[X]) ((Upd.refl _ _).setCell (by simp) _) (fun k hk hk'=>h.no hX h1 h2 (by simp at hk';exact hk' ▸ hk))
theorem Mv.wait{B:Nat}{e e1 e2:TypeId}{w:World}{g n c:Nat}{kept:List (List Int)}{v1:Value}{wait:List AG}{ss1:List Value}{k:Nat}(h:Mv B e e1 e2 w g n c kept v1 wait ss1 k)(hk:k<wait.length):∃(g1 cap1:Nat) (cur1:Array Value) (s:Value) (d:AG),v1=.slice (some ⟨g1,0,none⟩) wait.length cap1/\Blk w g1 e2 cur1/\g1≠g/\wait[k]?=some d/\ss1[k]?=some s/\cur1[k*2]?=some (.int .i64 d.At)/\cur1[k*2+1]?=some s/\Ba B e1 1 w s d.Row:=by
 obtain⟨ss,h0,h1,hg,hdd⟩:=h
 have hl:(Dq wait).length=wait.length:=by simp[Dq]
 obtain⟨g1,cap,cur,rfl,h3,h4,h5,hblk,hc⟩:=h1.open_ oM
 have hd:wait[k]?=some wait[k]:=List.getElem?_eq_getElem hk
 have hw:(Dq wait)[k]?=some ([(wait[k]).At],(wait[k]).Row):=by simp[Dq,hk]
 obtain⟨s,hs⟩:∃s,ss1[k]?=some s:=⟨_,List.getElem?_eq_getElem (by rw[h1.2.1];omega)⟩
 obtain⟨h6,h7⟩:=hc k _ s hw hs
 refine⟨g1,cap,cur,s,_,by rw[hl],hblk,fun e=>hg (by simp[Ep,Value.ownBlock,e]),hd,hs,by simpa using h6 0 _ rfl,by simpa using h7,h1.2.2.2.own k s _ hs hw⟩
end Go.Proofs.YtkpmbocbbgocbaaGreat
