/- Nest2 KA Q1 Q4 KT. -/
import Derived.Test.YtkpmbocbbgocbaaGreatGa
import Derived.Deep.AppendLies
import Derived.Deep.RegionLaw
import Derived.Test.YtkpmbocbbgocbaaGreatGb
set_option linter.unusedSimpArgs false
set_option linter.unusedVariables false
set_option maxHeartbeats 8000000
set_option maxRecDepth 100000
namespace Go.G8
open Go.RowKit
theorem Upd.grown {w w':World} {row:Option Nat} {fs:List Nat} (h:w.grownBy w' row) (hr:∀ k,row=some k→k ∈ fs):Upd w w' fs :=
 ⟨h.os,h.tape,h.output,h.size,fun i hi hn=>h.block i hi (fun e=>hn (hr i e.symm))⟩
theorem Upd.own {a w w':World} {B:Nat} {e:TypeId} {n:Nat} {v:Value} {cs:List Value} {fs:List Nat} (h:Upd a w fs) (hown:Own B e n w v cs) (hB:a.heap.size≤B) (hg:w.grownBy w' v.ownBlock):Upd a w' fs :=
 ⟨hg.os.trans h.os,hg.tape.trans h.tape,hg.output.trans h.output,Nat.le_trans h.size hg.size,fun i hi hn=>(hg.block i (Nat.lt_of_lt_of_le hi h.size) (fun e=>by have:=(hown.lt e.symm).1;omega)).trans (h.block i hi hn)⟩
theorem ncell_one (p:NRow × Value) (h:p.2.oneCell'=true):∀ u ∈ ncell p,u.oneCell'=true:=by
 intro u hu
 simp only [ncell,List.mem_append,List.mem_map,List.mem_singleton] at hu
 rcases hu with ⟨x,_,rfl⟩|rfl
 ·
  rfl
 exact h
theorem wid_snoc {n:Nat} {rows:List NRow} (hw:Wid n rows) {r:NRow} (hr:r.1.length=n):Wid n (rows ++ [r]):=by
 intro x hx
 rcases List.mem_append.1 hx with h|h
 ·
  exact hw x h
 simp at h;subst h;exact hr
theorem OwnNs.snoc {B B2:Nat} {e e1:TypeId} {n:Nat} {w w':World} {v v':Value} {rows:List NRow} {ss:List Value} {r:NRow} {t:Value} (h:OwnNs B e e1 n w v rows ss) (hr:r.1.length=n)
  (ht:OwnI B2 e1 1 w t r.2) (hB:B≤B2) (hlow:∀ k,k ∈ feet (v :: ss)→k<B2)
  (hown:Own B e (n+1) w' v' (ncells rows ss ++ ncell (r,t))) (hg:w.grownBy w' v.ownBlock) (hat:v'.ownBlock=v.ownBlock ∨ v'.ownBlock=some w.heap.size):OwnNs B e e1 n w' v' (rows ++ [r]) (ss ++ [t]):=by
 have hf:=h.foot
 obtain⟨hw,hl,ho,hin⟩:=h
 have hU:Upd w w' (feet [v]):=Upd.grown hg (fun k hk=>by simp [feet,hk])
 have hv':∀ k,k ∈ feet [v']→k ∈ feet [v] ∨ k=w.heap.size:=by
  intro k hk
  simp only [feet,List.mem_filterMap,List.mem_singleton,exists_eq_left] at hk ⊢
  rcases hat with h'|h'
  ·
   exact .inl (h' ▸ hk)
  rw [h'] at hk;injection hk with hk;exact .inr hk.symm
 have hlt:∀ k,k ∈ feet [t]→B2≤k∧k<w.heap.size:=by
  intro k hk
  simp only [feet,List.mem_filterMap,List.mem_singleton,exists_eq_left] at hk
  exact Own.lt ht hk
 have hvl:∀ k,k ∈ feet [v]→k ∈ feet (v :: ss):=by
  intro k hk
  simp only [feet,List.mem_filterMap] at hk ⊢
  obtain⟨u,hu,hk⟩:=hk
  simp at hu;subst hu
  exact⟨u,by simp,hk⟩
 refine⟨wid_snoc hw hr,by simp [hl],by rw [ncells_snoc hl];exact hown,?_⟩
 have hin':Inner B e1 w' v' rows ss:=⟨fun i s q h1 h2=>OwnI.upd' (hin.own i s q h1 h2) hU (fun k h3 h4=>hin.out i s k h1 h3 h4),hin.two,fun i s k h1 h2 h3=>by
  rcases hv' k h3 with h4|h4
  ·
   exact hin.out i s k h1 h2 h4
  have:=(hf k (feet_sub h1 h2)).2
  omega⟩
 refine hin'.snoc hl ((OwnI.upd' ht hU (fun k h3 h4=>?_)).mono hB) (fun i s k h1 h2 h3=>?_) (fun k h1 h2=>?_)
 ·
  have:=hlow k (hvl k h4);have:=(hlt k h3).1;omega
 ·
  have:=hlow k (feet_sub h1 h2);have:=(hlt k h3).1;omega
 have h3:=hlt k h1
 rcases hv' k h2 with h4|h4
 ·
  have:=hlow k (hvl k h4);omega
 omega
theorem ncells_set_slice {n:Nat} {rows:List NRow} {ss:List Value} {k:Nat} {r:NRow} (hw:Wid n rows) (hl:ss.length=rows.length) (hr:rows[k]?=some r) (xs:List Int) (t:Value) :
  ncells (rows.set k (r.1,xs)) (ss.set k t)=(ncells rows ss).set (k * (n+1)+n) t:=by
 induction rows generalizing k ss with
 | nil=>simp at hr
 | cons x rows ih =>
  cases ss with
  | nil=>simp at hl
  | cons s ss =>
   have hx:=hw x (by simp)
   cases k with
   | zero =>
    simp at hr;subst hr
    simp only [ncells,List.set_cons_zero,List.zip_cons_cons,List.flatMap_cons,Nat.zero_mul,Nat.zero_add,ncell]
    rw [List.set_append_left _ _ (by simp;omega),List.set_append_right _ _ (by simp;omega)]
    simp [hx]
   | succ k =>
    have h:=ih (ss:=ss) (k:=k) (fun r hr=>hw r (by simp [hr])) (by simpa using hl) (by simpa using hr)
    simp only [ncells,List.set_cons_succ,List.zip_cons_cons,List.flatMap_cons] at h ⊢
    have hlen:(ncell (x,s)).length=n+1:=by simp [ncell,hx]
    rw [List.set_append_right _ _ (by rw [hlen,Nat.add_mul,Nat.one_mul];omega),hlen,h]
    congr 2
    rw [Nat.add_mul,Nat.one_mul];omega
theorem OwnNs.set_slice {B:Nat} {e e1:TypeId} {n:Nat} {w:World} {rows:List NRow} {ss:List Value} {g len cap:Nat} (h:OwnNs B e e1 n w (.slice (some ⟨g,0,none⟩) len cap) rows ss) {k:Nat} {r:NRow} (hr:rows[k]?=some r) {t:Value} {xs:List Int}
  (ht:OwnI B e1 1 w t xs) (hd:∀ (i:Nat) (s:Value) (f:Nat),i ≠ k→ss[i]?=some s→f ∈ feet [s]→f ∈ feet [t]→False) (hg:g ∉ feet [t]) :
  OwnNs B e e1 n (w.setCell ⟨g,k * (n+1)+n,none⟩ t) (.slice (some ⟨g,0,none⟩) len cap) (rows.set k (r.1,xs)) (ss.set k t):=by
 obtain⟨hw,hl,hown,hin⟩:=h
 have hU:Upd w (w.setCell ⟨g,k * (n+1)+n,none⟩ t) (feet [.slice (some ⟨g,0,none⟩) len cap]):=(Upd.refl w _).setCell (by simp [feet,Value.ownBlock]) _
 have hrl:=hw r (List.mem_of_getElem? hr)
 have hk:k<rows.length:=(List.getElem?_eq_some_iff.1 hr).1
 have hks:k<ss.length:=by omega
 refine⟨wid_set hw k _ (by simpa using hrl),by simpa using hl,?_,⟨fun i s q h1 h2=>?_,fun i j s u f hij h1 h2 h3 h4=>?_,fun i s f h1 h2 h3=>?_⟩⟩
 ·
  rw [ncells_set_slice hw hl hr]
  have hnl:=ncells_len hw hl
  obtain⟨a',len',cap',hv,hcl,hc1,hc2,hcase⟩:=Own.open_ hown
  injection hv with hv1 hv2 hv3
  subst hv2;subst hv3
  rcases hcase with hz|⟨g',cur,ha,hBg,hblk,hcsz,hpre⟩
  ·
   rw [hnl,hz] at hcl
   have:=Nat.mul_pos (show 0<rows.length by omega) (show 0<n+1 by omega)
   omega
  rw [ha] at hv1
  injection hv1 with hv1
  injection hv1 with hv1
  subst hv1
  refine Own.of_blk (hblk.set_ _ _) hBg (by simpa using hcsz) (by rw [List.length_set];exact hcl) hc1 hc2 (hpre.setBoth oM ?_)
  rw [hcsz];exact Nat.mul_le_mul_right _ hc1
 ·
  rcases (Decidable.em (i=k)).symm with hik|rfl
  ·
   rw [List.getElem?_set_ne (fun e=>hik e.symm)] at h1 h2
   exact OwnI.upd' (hin.own i s q h1 h2) hU (fun f h3 h4=>hin.out i s f h1 h3 h4)
  rw [List.getElem?_set_self hks] at h1
  rw [List.getElem?_set_self hk] at h2
  injection h1 with h1;injection h2 with h2;subst h1;subst h2
  exact OwnI.upd' ht hU (fun f h3 h4=>hg (by simp [feet,Value.ownBlock] at h4;rw [← h4];exact h3))
 ·
  rcases (Decidable.em (i=k)).symm with hik|rfl
  ·
   rw [List.getElem?_set_ne (fun e=>hik e.symm)] at h1
   rcases (Decidable.em (j=k)).symm with hjk|rfl
   ·
    rw [List.getElem?_set_ne (fun e=>hjk e.symm)] at h2
    exact hin.two i j s u f hij h1 h2 h3 h4
   rw [List.getElem?_set_self hks] at h2
   injection h2 with h2;subst h2
   exact hd i s f hik h1 h3 h4
  rw [List.getElem?_set_self hks] at h1
  injection h1 with h1;subst h1
  rw [List.getElem?_set_ne oM] at h2
  exact hd j u f oM h2 h4 h3
 rcases (Decidable.em (i=k)).symm with hik|rfl
 ·
  rw [List.getElem?_set_ne (fun e=>hik e.symm)] at h1
  exact hin.out i s f h1 h2 h3
 rw [List.getElem?_set_self hks] at h1
 injection h1 with h1;subst h1
 simp [feet,Value.ownBlock] at h3
 exact hg (by rw [← h3];exact h2)
section
variable {P:Program} {w:World} {B B2:Nat} {e e1:TypeId} {n:Nat} {v:Value} {rows:List NRow} {ss:List Value} {r:NRow} {t:Value}
theorem wp_append_row0 {o:Oper} {a:Act} {K:Act→World→Prop} {Q:Exit→Act→World→Prop} (s x:Operand) (ty:TypeId)
  (ho:o.op=.call { callee:=.builtin .append,args:=#[s,x],argTypes:=#[ty,ty] })
  (i:TypeInfo) (z:Value) (bytes:Nat) (ht:P.underlying ty=some (.slice e)) (hi:P.info? e=some i) (hz:i.zero=some z)
  (hsize:i.size=n+1) (hby:i.bytes=bytes) (hzs:z.cells.size=n+1)
  (hs:a.eval s=v) (hown:OwnNs B e e1 n w v rows ss) (b:Nat) (hx:a.eval x=.slice (some ⟨b,0,none⟩) 1 1) (cs:Array Value) (hb:Blk w b e cs) (hcs:cs.toList=ncell (r,t)) (hr:r.1.length=n)
  (hrow:OwnI B2 e1 1 w t r.2) (hB:B≤B2) (hlow:∀ k,k ∈ feet (v :: ss)→k<B2) (N:Nat) (hlen:rows.length+1≤N) (hN:N≤maxLen) (hbytes:N * bytes≤140737488355328) (hbase:B≤w.heap.size)
  (h:∀ g cap w',OwnNs B e e1 n w' (.slice (some ⟨g,0,none⟩) (rows.length+1) cap) (rows ++ [r]) (ss ++ [t])→w.grownBy w' v.ownBlock→(∀ W0:World,Ext W0 w→W0.heap.size≤B→Ext W0 w')→(∀ (W0:World) (fs:List Nat),Upd W0 w fs→W0.heap.size≤B→Upd W0 w' fs)→K (a.put o.dst (.slice (some ⟨g,0,none⟩) (rows.length+1) cap)) w'):o.wp P a w K Q:=by
 obtain⟨len,ho'⟩:=hown.2.2.1
 have hnl:=ncells_len hown.1 hown.2.1
 have hle:len=rows.length:=by
  have h1:(ncells rows ss).length=len * (n+1):=ho'.1
  rw [hnl] at h1
  exact (Nat.eq_of_mul_eq_mul_right oM h1).symm
 subst hle
 obtain⟨sa,sn,sc,rfl⟩:=hrow.shape
 have hcl:(ncell (r,.slice sa sn sc)).length=1 * (n+1):=by simp [ncell,hr]
 refine wp_append_lies w s x ty ho B e i z (n+1) bytes ht hi hz hsize hby hzs oM v _ _ hs ho' ⟨b,0,none⟩ 1 1 (ncell (r,.slice sa sn sc)) hx hcl (fun j u hu=>?_) (ncell_one _ rfl) oM oM (Nat.le_trans (Nat.mul_le_mul_right _ hlen) hbytes) hbase _ rfl (fun g cap w' h1 h2 h3 _=>h g cap w' ?_ h2 (fun W0 hW hB0=>Ext.own hW ⟨_,ho'⟩ hB0 h2) (fun W0 fs hW hB0=>Upd.own hW ⟨_,ho'⟩ hB0 h2))
 ·
  rw [add_lit0,Nat.zero_add,hb.cell j]
  rw [← hcs] at hu
  simpa using hu
 exact hown.snoc hr hrow hB hlow ⟨_,h1⟩ h2 (h3.elim (fun h=>.inl (by simp [Value.ownBlock] at h ⊢;exact h.symm)) (fun h=>.inr (by simp [Value.ownBlock,h])))
theorem wp_append_row {ops:Array Oper} {rest:List Oper} {o:Oper} {a:Act} {Q:Exit→Act→World→Prop} (hgd:o.guard=none) (s x:Operand) (ty:TypeId)
  (ho:o.op=.call { callee:=.builtin .append,args:=#[s,x],argTypes:=#[ty,ty] })
  (i:TypeInfo) (z:Value) (bytes:Nat) (ht:P.underlying ty=some (.slice e)) (hi:P.info? e=some i) (hz:i.zero=some z)
  (hsize:i.size=n+1) (hby:i.bytes=bytes) (hzs:z.cells.size=n+1)
  (hs:a.eval s=v) (hown:OwnNs B e e1 n w v rows ss) (b:Nat) (hx:a.eval x=.slice (some ⟨b,0,none⟩) 1 1) (cs:Array Value) (hb:Blk w b e cs) (hcs:cs.toList=ncell (r,t)) (hr:r.1.length=n)
  (hrow:OwnI B2 e1 1 w t r.2) (hB:B≤B2) (hlow:∀ k,k ∈ feet (v :: ss)→k<B2) (N:Nat) (hlen:rows.length+1≤N) (hN:N≤maxLen) (hbytes:N * bytes≤140737488355328) (hbase:B≤w.heap.size)
  (h:∀ g cap w',OwnNs B e e1 n w' (.slice (some ⟨g,0,none⟩) (rows.length+1) cap) (rows ++ [r]) (ss ++ [t])→w.grownBy w' v.ownBlock→(∀ W0:World,Ext W0 w→W0.heap.size≤B→Ext W0 w')→(∀ (W0:World) (fs:List Nat),Upd W0 w fs→W0.heap.size≤B→Upd W0 w' fs)→wpList P ops Q rest (a.put o.dst (.slice (some ⟨g,0,none⟩) (rows.length+1) cap)) w'):wpList P ops Q (o :: rest) a w :=
 wpList_plain hgd fun _ hK=>wp_append_row0 s x ty ho i z bytes ht hi hz hsize hby hzs hs hown b hx cs hb hcs hr hrow hB hlow N hlen hN hbytes hbase fun g cap w' h1 h2 h3 h4=>hK _ _ (h g cap w' h1 h2 h3 h4)
theorem step_append_row {ops:Array Oper} {o:Oper} {a:Act} {K:Act→World→Prop} {Q:Exit→Act→World→Prop} {E:Prop} (hgd:o.guard=none) (s x:Operand) (ty:TypeId)
  (ho:o.op=.call { callee:=.builtin .append,args:=#[s,x],argTypes:=#[ty,ty] })
  (i:TypeInfo) (z:Value) (bytes:Nat) (ht:P.underlying ty=some (.slice e)) (hi:P.info? e=some i) (hz:i.zero=some z)
  (hsize:i.size=n+1) (hby:i.bytes=bytes) (hzs:z.cells.size=n+1)
  (hs:a.eval s=v) (hown:OwnNs B e e1 n w v rows ss) (b:Nat) (hx:a.eval x=.slice (some ⟨b,0,none⟩) 1 1) (cs:Array Value) (hb:Blk w b e cs) (hcs:cs.toList=ncell (r,t)) (hr:r.1.length=n)
  (hrow:OwnI B2 e1 1 w t r.2) (hB:B≤B2) (hlow:∀ k,k ∈ feet (v :: ss)→k<B2) (N:Nat) (hlen:rows.length+1≤N) (hN:N≤maxLen) (hbytes:N * bytes≤140737488355328) (hbase:B≤w.heap.size)
  (h:∀ g cap w',OwnNs B e e1 n w' (.slice (some ⟨g,0,none⟩) (rows.length+1) cap) (rows ++ [r]) (ss ++ [t])→w.grownBy w' v.ownBlock→(∀ W0:World,Ext W0 w→W0.heap.size≤B→Ext W0 w')→(∀ (W0:World) (fs:List Nat),Upd W0 w fs→W0.heap.size≤B→Upd W0 w' fs)→K (a.put o.dst (.slice (some ⟨g,0,none⟩) (rows.length+1) cap)) w') :
  if Region.wanted o (yielded ops a.tmps)=true then Oper.wp P o a w K Q else E:=by
 have hw:Region.wanted o (yielded ops a.tmps)=true:=by simp [Region.wanted,hgd]
 rw [if_pos hw]
 exact wp_append_row0 s x ty ho i z bytes ht hi hz hsize hby hzs hs hown b hx cs hb hcs hr hrow hB hlow N hlen hN hbytes hbase h
theorem OwnNs.len (h:OwnNs B e e1 n w v rows ss):∃ a cap,v=.slice a rows.length cap∧rows.length≤cap∧cap≤maxLen:=by
 obtain⟨a,len,cap,h2,h3,h4,h5,_⟩:=Own.open_ h.2.2.1
 rw [ncells_len h.1 h.2.1] at h3
 have:=Nat.eq_of_mul_eq_mul_right oM h3
 subst this
 exact⟨a,cap,h2,h4,h5⟩
theorem OwnNs.open_ (h:OwnNs B e e1 n w v rows ss) (hp:0<rows.length):∃ g cap cur,v=.slice (some ⟨g,0,none⟩) rows.length cap∧rows.length≤cap∧cap≤maxLen∧B≤g∧Blk w g e cur ∧
  ∀ i q u,rows[i]?=some q→ss[i]?=some u→(∀ j y,q.1[j]?=some y→cur[i * (n+1)+j]?=some (.int .i64 y))∧cur[i * (n+1)+n]?=some u:=by
 obtain⟨a,len,cap,h2,h3,h4,h5,hcase⟩:=Own.open_ h.2.2.1
 have hnl:=ncells_len h.1 h.2.1
 have h3':=h3
 rw [hnl] at h3
 have:=Nat.eq_of_mul_eq_mul_right oM h3
 subst this
 rcases hcase with hz|⟨g,cur,rfl,hBg,hblk,hcsz,hpre⟩
 ·
  omega
 refine⟨g,cap,cur,h2,h4,h5,hBg,hblk,fun i q u hq hu=>⟨fun j y hy=>?_,?_⟩⟩
 ·
  have hj:j<q.1.length:=(List.getElem?_eq_some_iff.1 hy).1
  have hqn:=h.1 q (List.mem_of_getElem? hq)
  have h7:=mul_lt_of (List.getElem?_eq_some_iff.1 hq).1 (n+1)
  rw [hpre _ oM]
  exact ncells_int h.1 hq hu hy
 have h7:=mul_lt_of (List.getElem?_eq_some_iff.1 hq).1 (n+1)
 rw [hpre _ oM]
 exact ncells_sl h.1 hq hu
end
theorem Own.typed {B:Nat} {e:TypeId} {n:Nat} {w:World} {v:Value} {cs:List Value} (h:Own B e n w v cs) {X:Nat} (hX:v.ownBlock=some X):∃ cur,Blk w X e cur:=by
 obtain⟨len,h⟩:=h
 rcases h.2 with ⟨h0,_⟩|⟨g,cap,cur,hv,hb,hg,_⟩
 ·
  rw [h0] at hX;simp [Value.ownBlock] at hX
 rw [hv] at hX
 simp [Value.ownBlock] at hX
 subst hX
 exact⟨cur,hg⟩
theorem Blk.same {w:World} {X:Nat} {t t':TypeId} {a b:Array Value} (h:Blk w X t a) (k:Blk w X t' b):t=t':=by
 unfold Blk at h k
 rw [h] at k
 injection k with k;injection k with _ k
theorem OwnNs.typed {B:Nat} {e e1:TypeId} {n:Nat} {w:World} {v:Value} {rows:List NRow} {ss:List Value} (h:OwnNs B e e1 n w v rows ss) {k:Nat} (hk:k ∈ feet (v :: ss)):∃ t cur,Blk w k t cur∧(t=e ∨ t=e1):=by
 simp only [feet,List.mem_filterMap] at hk
 obtain⟨u,hu,hf⟩:=hk
 rcases List.mem_cons.1 hu with rfl|hu
 ·
  obtain⟨cur,hb⟩:=Own.typed h.2.2.1 hf
  exact⟨e,cur,hb,.inl rfl⟩
 obtain⟨i,hi⟩:=List.mem_iff_getElem?.1 hu
 have hlt:i<rows.length:=by have:=(List.getElem?_eq_some_iff.1 hi).1;have:=h.2.1;omega
 obtain⟨cur,hb⟩:=Own.typed (h.2.2.2.own i u rows[i] hi (List.getElem?_eq_getElem hlt)) hf
 exact⟨e1,cur,hb,.inr rfl⟩
theorem OwnI.typed {B:Nat} {e:TypeId} {n:Nat} {w:World} {v:Value} {xs:List Int} (h:OwnI B e n w v xs) {k:Nat} (hk:k ∈ feet [v]):∃ cur,Blk w k e cur:=by
 simp only [feet,List.mem_filterMap] at hk
 obtain⟨u,hu,hf⟩:=hk
 simp at hu;subst hu
 exact Own.typed h hf
theorem ns_apart {B B':Nat} {e e1 e2:TypeId} {n m:Nat} {w:World} {v v1:Value} {rows:List NRow} {ss:List Value} {xs:List Int} (h:OwnNs B e e1 n w v rows ss) (h1:OwnI B' e2 m w v1 xs) (n1:e2 ≠ e) (n2:e2 ≠ e1):∀ k,k ∈ feet (v :: ss)→k ∈ feet [v1]→False:=by
 intro k hk hk1
 obtain⟨t,cur,hb,ht⟩:=h.typed hk
 obtain⟨c2,hb2⟩:=h1.typed hk1
 have:=hb2.same hb
 rcases ht with rfl|rfl
 ·
  exact n1 this
 exact n2 this
theorem i_apart {B B':Nat} {e e2:TypeId} {n m:Nat} {w:World} {v v1:Value} {ys xs:List Int} (h:OwnI B e n w v ys) (h1:OwnI B' e2 m w v1 xs) (n1:e2 ≠ e):∀ k,k ∈ feet [v]→k ∈ feet [v1]→False:=by
 intro k hk hk1
 obtain⟨cur,hb⟩:=h.typed hk
 obtain⟨c2,hb2⟩:=h1.typed hk1
 exact n1 (hb2.same hb)
end Go.G8
namespace Go.Proofs.YtkpmbocbbgocbaaGreat
open Go.RowKit Go.G8
theorem l1Copy_c (w:World) (s0_0:Value) (l0_0:List Int) (h0_0:Ints 1 w s0_0 l0_0) (e0:l0_0.length≤1000000) :
  Calls Tryz.prog 422 #[s0_0] w (Ret w fun r0 w'=>OwnI w.heap.size 2 1 w' r0 l0_0):=by
 obtain⟨a0,n0,k0,rfl⟩:=h0_0.shape
 obtain⟨i0,hi,hz0,hz1,hz2⟩:=info_parts info_Int64
 go_enter Tryz.func422,Tryz.ntmps422
 go_wp2_with (first|(at_builtin;refine wp_append_fresh rfl (.tmp 3) (.tmp 4) 62 rfl 2 i0 _ 1 8 Tryz.underlying62 hi hz0 hz1 hz2 rfl dC w.heap.size (by simp) rfl (.slice a0 n0 k0) (l0_0.map (.int .i64)) rfl h0_0 (ints_oneCell _ _) 1000000 (by simp;omega) (by unfold maxLen;omega) oM ?_;rotate_right;intro t5 w1 g5 hx1;obtain⟨ta5,tn5,tc5,rfl⟩:=g5.sl.shape))
 go_ret
 exact⟨_,rfl,hx1,g5⟩
theorem copyRow_c (w:World) (s0_0:Value) (l0_0:List Int) (h0_0:Ints 1 w s0_0 l0_0) (e0:l0_0.length≤1000000) :
  Calls Tryz.prog 420 #[s0_0] w (Ret w fun r0 w'=>OwnI w.heap.size 2 1 w' r0 l0_0):=by
 obtain⟨a0,n0,k0,rfl⟩:=h0_0.shape
 obtain⟨i0,hi,hz0,hz1,hz2⟩:=info_parts info_Int64
 go_enter Tryz.func420,Tryz.ntmps420
 go_wp2_with (first|(at_builtin;refine wp_append_fresh rfl (.tmp 3) (.tmp 4) 62 rfl 2 i0 _ 1 8 Tryz.underlying62 hi hz0 hz1 hz2 rfl dC w.heap.size (by simp) rfl (.slice a0 n0 k0) (l0_0.map (.int .i64)) rfl h0_0 (ints_oneCell _ _) 1000000 (by simp;omega) (by unfold maxLen;omega) oM ?_;rotate_right;intro t5 w1 g5 hx1;obtain⟨ta5,tn5,tc5,rfl⟩:=g5.sl.shape))
 go_ret
 exact⟨_,rfl,hx1,g5⟩
end Go.Proofs.YtkpmbocbbgocbaaGreat
namespace Go.G8
open Go.RowKit
theorem nestI_snoc (l:List (List Int)) (r:List Int):nestInt64S (l ++ [r])=nestInt64S l ++ [([],r)]:=by simp [nestInt64S]
theorem nestW_snoc (l:List DWrite) (d:DWrite):nestWrite (l ++ [d])=nestWrite l ++ [([d.At],d.Row)]:=by simp [nestWrite]
theorem Ext.row {W0 w w':World} {B n:Nat} {e e1:TypeId} {v:Value} {rows:List NRow} {ss:List Value} (h:Ext W0 w) (hown:OwnNs B e e1 n w v rows ss) (hB:W0.heap.size≤B) (hg:w.grownBy w' v.ownBlock):Ext W0 w':=Ext.own h hown.2.2.1 hB hg
theorem OwnNs.made0 (w:World) (e e1:TypeId) (n cap:Nat) (cur:Array Value) (hs:cur.size=cap * (n+1)) (hm:cap≤maxLen):OwnNs w.heap.size e e1 n (w.alloc (.cells cur e)) (.slice (some ⟨w.heap.size,0,none⟩) 0 cap) [] [] :=
 ⟨fun r h=>by simp at h,rfl,Own.of_blk (Blk.new _ _ _) (Nat.le_refl _) hs (by simp [ncells]) (Nat.zero_le _) hm (by simpa using Pre.zero _ _),⟨fun i s r h=>by simp at h,fun i j s t k _ h=>by simp at h,fun i s k h=>by simp at h⟩⟩
end Go.G8
namespace Go.Proofs.YtkpmbocbbgocbaaGreat
open Go.RowKit Go.G8
theorem copyRows_c (w:World) (s0_0:Value) (l0_0:List (List Int)) (h0_0:Nest 0 w s0_0 (nestInt64S l0_0)) (e0:l0_0.length≤1000000) (e1:∀ r,r ∈ l0_0→r.length≤1000000) :
  Calls Tryz.prog 428 #[s0_0] w (Ret w fun r0 w'=>∃ ss:List Value,OwnNs w.heap.size 62 2 0 w' r0 (nestInt64S l0_0) ss):=by
 obtain⟨a,cap,rfl,hcap,hm,ha⟩:=Nest.rows h0_0
 have HA:=Lib.hid ha
 have HE:=Lib.hid e1
 clear ha e1
 unfold maxLen at hm
 obtain⟨i0,hi,hz0,hz1,hz2⟩:=info_parts info_Int64S
 have hmk:=fun W=>run_make (P:=Tryz.prog) W 22 62 i0 _ Tryz.underlying22 hi hz0 .i64 .i64 0 l0_0.length oM oM (by rw [hz2];omega) oM
 simp only [Int.toNat_natCast,Int.toNat_zero] at hmk
 have hsz:(madeCells (Value.slice none 0 0).cells (l0_0.length * i0.size)).size=l0_0.length * (0+1):=by rw [size_madeCells,hz1]
 generalize madeCells (Value.slice none 0 0).cells (l0_0.length * i0.size)=mc at hmk hsz
 have hown0:=OwnNs.made0 w 62 2 0 l0_0.length mc hsz (by unfold maxLen;omega)
 go_enter Tryz.func428,Tryz.ntmps428
 go_wp2
 clear hmk
 go_loopw [11,3] (fun i s wr=>∃ k:Nat,k≤l0_0.length∧i=.int .i64 k∧Ext w wr∧∃ ss:List Value,OwnNs w.heap.size 62 2 0 wr s (nestInt64S (l0_0.take k)) ss) (fun i _ _=>l0_0.length - (intOf i).toNat)
 case atStart=>exact⟨0,Nat.zero_le _,rfl,(Ext.refl _).alloc _,[],by simpa [nestInt64S] using hown0⟩
 case round =>
  obtain⟨k,hk,rfl,he,ss,hown⟩:=hrel
  obtain⟨oa,on,oc,rfl⟩:=hown.nest.shape
  have hln:(nestInt64S (l0_0.take k)).length=k:=by simp [nestInt64S];omega
  have HLN:=Lib.hid hln
  have hsz1:=he.size
  by_cases hlt:k<l0_0.length
  ·
   obtain⟨r,b1,o1,sa,sn,sc,hr,rfl,hb1,c0,hin⟩:=HA.out k hlt
   have d0:=he.cell c0
   have HR:=Lib.hid hr
   have HO:=Lib.hid hown
   have hrl:=HE.out r (List.mem_of_getElem? hr)
   clear hr c0 hown hln
   go_wp2_with (first|(go_at_call 420;refine (copyRow_c _ _ _ (hin.ext he) hrl).mono ?_;rintro e w1 ⟨_,rfl,hx1,g1⟩;obtain⟨ta,tn,tc,rfl⟩:=g1.shape;have hsz2:=hx1.size)|(at_builtin;refine wp_append_row (n:=0) (r:=([],r)) rfl _ _ 22 rfl i0 _ 24 Tryz.underlying22 hi hz0 hz1 hz2 rfl rfl ((HO.out.ext hx1).ext ((Ext.refl _).alloc _)) w1.heap.size rfl _ (Blk.new _ _ _) rfl rfl (g1.ext ((Ext.refl _).alloc _)) oM (fun k hk=>(HO.out.foot k hk).2) 1000001 (by have:=HLN.out;omega) (by unfold maxLen;omega) oM (by simp;omega) ?_;rotate_right;intro g cp wa hown1 hga hxa _))
   go_roundw
   case rel =>
    refine⟨k+1,by omega,by go_num,hxa w ((he.trans hx1).alloc _) (Nat.le_refl _),ss ++ [.slice ta tn tc],?_⟩
    have h9:=hown1
    rw [take_snoc HR.out,nestI_snoc]
    exact h9
   case measure=>simp [intOf];omega
  obtain rfl:k=l0_0.length:=by omega
  rw [List.take_length] at hown
  have HO:=Lib.hid hown
  clear hown hln
  go_wp2
  go_ret
  exact⟨_,rfl,he,ss,HO.out⟩
end Go.Proofs.YtkpmbocbbgocbaaGreat
namespace Go.G8
open Go.RowKit
def tornRow (row old:List Int):List Int:=row.take (row.length / 2) ++ old.drop (row.length / 2)
theorem tornRow_len {row old:List Int} (h1:row.length≤48) (h2:old.length≤48):(tornRow row old).length≤48:=by
 simp only [tornRow,List.length_append,List.length_take,List.length_drop];omega
theorem Sl.sliced {n:Nat} {w:World} {a:Option Addr} {len cap:Nat} {cs:List Value} (h:Sl n w (.slice a len cap) cs) {l m:Nat} (h1:l≤m) (h2:m≤len):Sl n w (Go.sliced a l m cap n) ((cs.take (m * n)).drop (l * n)):=by
 obtain⟨a',len',cap',e,hl,hlc,hcm,hnil,hc⟩:=h
 injection e with e1 e2 e3
 subst e1;subst e2;subst e3
 unfold Go.sliced
 refine⟨_,_,_,rfl,?_,by omega,by omega,?_,?_⟩
 ·
  have h5:=Nat.mul_le_mul_right n h2
  simp only [List.length_drop,List.length_take,Nat.sub_mul]
  omega
 ·
  intro h
  split at h
  ·
   omega
  rw [Option.map_eq_none_iff] at h
  have:=hnil h
  omega
 intro b off sp h h0
 rw [if_neg oM,Option.map_eq_some_iff] at h
 obtain⟨⟨b',off',sp'⟩,rfl,h4⟩:=h
 obtain⟨rfl,hb,hcell⟩:=hc b' off' sp' rfl oM
 rw [add_lit0] at h4
 injection h4 with h5 h6 h7
 subst h5;subst h6;subst h7
 refine⟨rfl,hb,fun i u hu=>?_⟩
 rw [Nat.add_assoc]
 apply hcell
 rw [List.getElem?_drop] at hu
 rw [List.getElem?_take] at hu
 split at hu
 ·
  exact hu
 cases hu
theorem Ints.take {w:World} {a:Option Addr} {len cap:Nat} {xs:List Int} (h:Ints 1 w (.slice a len cap) xs) {m:Nat} (h2:m≤len):Ints 1 w (.slice a m cap) (xs.take m):=by
 obtain⟨a',len',cap',e,hl,hlc,hcm,hnil,hc⟩:=h
 injection e with e1 e2 e3
 subst e1;subst e2;subst e3
 refine⟨_,_,_,rfl,by simp at hl ⊢;omega,by omega,hcm,hnil,fun b off sp h h0=>?_⟩
 obtain⟨h3,h4,h5⟩:=hc b off sp h oM
 refine⟨h3,h4,fun i u hu=>h5 i u ?_⟩
 rw [List.map_take,List.getElem?_take] at hu
 split at hu
 ·
  exact hu
 cases hu
theorem Ints.sliced {w:World} {a:Option Addr} {len cap:Nat} {xs:List Int} (h:Ints 1 w (.slice a len cap) xs) {l m:Nat} (h1:l≤m) (h2:m≤len):Ints 1 w (Go.sliced a l m cap 1) ((xs.take m).drop l):=by
 have:=Sl.sliced h h1 h2
 simp only [Nat.mul_one,← List.map_take,← List.map_drop] at this
 exact this
theorem Ints.drop {w:World} {a:Option Addr} {cap:Nat} {xs:List Int} (h:Ints 1 w (.slice a xs.length cap) xs) {m:Nat} (h1:m<xs.length) (h2:xs.length≤cap):Ints 1 w (.slice (a.map (fun x=>x.add m)) (xs.length - m) (cap - m)) (xs.drop m):=by
 have:=h.sliced (l:=m) (Nat.le_of_lt h1) (Nat.le_refl _)
 rw [List.take_length] at this
 unfold Go.sliced at this
 rw [if_neg oM,Nat.mul_one] at this
 exact this
end Go.G8
namespace Go.Proofs.YtkpmbocbbgocbaaGreat
open Go.RowKit Go.G8
theorem l3Torn_c (w:World) (s0_0:Value) (l0_0:List Int) (s1_0:Value) (l1_0:List Int) (h0_0:Ints 1 w s0_0 l0_0) (h1_0:Ints 1 w s1_0 l1_0) (e0:l0_0.length≤1000) (e1:l1_0.length≤1000) :
  Calls Tryz.prog 429 #[s0_0,s1_0] w (Ret w fun r0 w'=>OwnI w.heap.size 2 1 w' r0 (tornRow l0_0 l1_0)):=by
 obtain⟨a0,cap0,rfl,hc0,hm0,_⟩:=h0_0.one
 obtain⟨a1,cap1,rfl,hc1,hm1,_⟩:=h1_0.one
 unfold maxLen at hm0 hm1
 obtain⟨i0,hi,hz0,hz1,hz2⟩:=info_parts info_Int64
 have hq:(l0_0.length:Int).tdiv 2=((l0_0.length / 2:Nat):Int):=rfl
 obtain⟨m,hm⟩:∃ m,m=l0_0.length / 2:=⟨_,rfl⟩
 rw [← hm] at hq
 have hml:m≤l0_0.length:=by omega
 have HM:=Lib.hid hm
 clear hm
 go_enter Tryz.func429,Tryz.ntmps429
 by_cases hlt:m<l1_0.length
 ·
  go_wp2_with (first|(go_at_call 422;refine (l1Copy_c _ _ _ (h0_0.take hml) (by simp;omega)).mono ?_;rintro e w1 ⟨_,rfl,hx1,g1⟩;obtain⟨ta,tn,tc,rfl⟩:=g1.shape;have hsz1:=hx1.size)|(at_builtin;refine wp_append rfl (.tmp 18) (.tmp 21) 62 rfl 2 i0 _ 1 8 Tryz.underlying62 hi hz0 hz1 hz2 rfl dC w.heap.size _ _ rfl g1 _ ((l1_0.drop m).map (.int .i64)) rfl ((h1_0.drop hlt hc1).ext hx1) (ints_oneCell _ _) 100000 (by simp;omega) (by unfold maxLen;omega) oM oM w hx1 (Nat.le_refl _) ?_;rotate_right;intro v1 wa hown1 hea _))
  go_ret
  refine⟨_,rfl,hea,?_⟩
  unfold tornRow
  rw [← HM.out]
  simpa [OwnI] using hown1
 go_wp2_with (first|(go_at_call 422;refine (l1Copy_c _ _ _ (h0_0.take hml) (by simp;omega)).mono ?_;rintro e w1 ⟨_,rfl,hx1,g1⟩;obtain⟨ta,tn,tc,rfl⟩:=g1.shape;have hsz1:=hx1.size))
 go_ret
 refine⟨_,rfl,hx1,?_⟩
 unfold tornRow
 rw [← HM.out,List.drop_eq_nil_of_le oM,List.append_nil]
 exact g1
def RdState (w:World) (v:Value) (s:DState):Prop:=∃ t2 t3:Value,v=.agg #[.int .i64 s.Index,.int .i64 s.Time,t2,t3,.int .i64 s.Lease.Holder,.int .i64 s.Lease.Epoch,.int .i64 s.Lease.Until]∧Ints 2 w t2 (flPair s.Pairs)∧Ints 5 w t3 (flJob s.Jobs)
def OwState (B:Nat) (w:World) (v:Value) (s:DState) (F:List Nat):Prop:=∃ t2 t3:Value,v=.agg #[.int .i64 s.Index,.int .i64 s.Time,t2,t3,.int .i64 s.Lease.Holder,.int .i64 s.Lease.Epoch,.int .i64 s.Lease.Until]∧OwnI B 362 2 w t2 (flPair s.Pairs)∧OwnI B 366 5 w t3 (flJob s.Jobs)∧F=feet [t2] ++ feet [t3]
def MkState (B:Nat) (w:World) (v:Value) (s:DState) (F:List Nat) (q:Int):Prop:=∃ t2 t3:Value,v=.agg #[.int .i64 s.Index,.int .i64 s.Time,t2,t3,.int .i64 s.Lease.Holder,.int .i64 s.Lease.Epoch,.int .i64 s.Lease.Until]∧OwnI B 362 2 w t2 (run q (s.Pairs.length * 2))∧OwnI B 366 5 w t3 (run (q+(s.Pairs.length * 2:Nat)) (s.Jobs.length * 5))∧F=feet [t2] ++ feet [t3]
section
variable {B B':Nat} {w w':World} {v:Value} {s s':DState} {F:List Nat} {q:Int}
theorem IsState.keep (h:IsState B w v s) (x:Chg B w w'):IsState B w' v s:=let ⟨t2,t3,e,h2,h3⟩:=h;⟨t2,t3,e,h2.keep x,h3.keep x⟩
theorem IsState.mono (h:IsState B w v s) (x:B'≤B):IsState B' w v s:=let ⟨t2,t3,e,h2,h3⟩:=h;⟨t2,t3,e,h2.mono x,h3.mono x⟩
theorem IsState.ext (h:IsState B w v s) (x:Ext w w'):IsState B w' v s:=let ⟨t2,t3,e,h2,h3⟩:=h;⟨t2,t3,e,Own.ext h2 x,Own.ext h3 x⟩
theorem IsState.ow (h:IsState B w v s):∃ F,OwState B w v s F:=let ⟨t2,t3,e,h2,h3⟩:=h;⟨_,t2,t3,e,h2,h3,rfl⟩
theorem IsState.rd (h:IsState B w v s):RdState w v s:=let ⟨t2,t3,e,h2,h3⟩:=h;⟨t2,t3,e,h2.ints,h3.ints⟩
theorem RdState.shape (h:RdState w v s):∃ a2 n2 k2 a3 n3 k3,v=.agg #[.int .i64 s.Index,.int .i64 s.Time,.slice a2 n2 k2,.slice a3 n3 k3,.int .i64 s.Lease.Holder,.int .i64 s.Lease.Epoch,.int .i64 s.Lease.Until]:=by
 obtain⟨t2,t3,rfl,h2,h3⟩:=h
 obtain⟨a2,n2,k2,rfl⟩:=h2.shape
 obtain⟨a3,n3,k3,rfl⟩:=h3.shape
 exact⟨a2,n2,k2,a3,n3,k3,rfl⟩
theorem RdState.ext (h:RdState w v s) (x:Ext w w'):RdState w' v s:=let ⟨t2,t3,e,h2,h3⟩:=h;⟨t2,t3,e,h2.ext x,h3.ext x⟩
theorem OwState.rd (h:OwState B w v s F):RdState w v s:=let ⟨t2,t3,e,h2,h3,_⟩:=h;⟨t2,t3,e,h2.ints,h3.ints⟩
theorem OwState.is (h:OwState B w v s F):IsState B w v s:=let ⟨t2,t3,e,h2,h3,_⟩:=h;⟨t2,t3,e,h2,h3⟩
theorem OwState.ext (h:OwState B w v s F) (x:Ext w w'):OwState B w' v s F:=let ⟨t2,t3,e,h2,h3,hF⟩:=h;⟨t2,t3,e,Own.ext h2 x,Own.ext h3 x,hF⟩
theorem OwState.keep (h:OwState B w v s F) (x:Chg B w w'):OwState B w' v s F:=let ⟨t2,t3,e,h2,h3,hF⟩:=h;⟨t2,t3,e,h2.keep x,h3.keep x,hF⟩
theorem OwState.mono (h:OwState B w v s F) (x:B'≤B):OwState B' w v s F:=let ⟨t2,t3,e,h2,h3,hF⟩:=h;⟨t2,t3,e,h2.mono x,h3.mono x,hF⟩
theorem OwState.upd (h:OwState B w v s F) {fs:List Nat} (x:Upd w w' fs) (hn:∀ k,k ∈ F→k ∈ fs→False):OwState B w' v s F:=by
 obtain⟨t2,t3,e,h2,h3,rfl⟩:=h
 exact⟨t2,t3,e,OwnI.upd' h2 x (fun k h=>hn k (List.mem_append_left _ h)),OwnI.upd' h3 x (fun k h=>hn k (List.mem_append_right _ h)),rfl⟩
theorem OwState.low (h:OwState B w v s F):∀ k,k ∈ F→B≤k∧k<w.heap.size:=by
 obtain⟨t2,t3,e,h2,h3,rfl⟩:=h
 intro k hk
 rcases List.mem_append.1 hk with h|h
 ·
  exact h2.foot k h
 exact h3.foot k h
theorem MkState.ext (h:MkState B w v s F q) (x:Ext w w'):MkState B w' v s F q:=let ⟨t2,t3,e,h2,h3,hF⟩:=h;⟨t2,t3,e,Own.ext h2 x,Own.ext h3 x,hF⟩
end
def RdShot (w:World) (v:Value) (s:DShot):Prop:=∃ t2 t3:Value,v=.agg #[.int .i64 s.Num,.int .i64 s.State.Index,.int .i64 s.State.Time,t2,t3,.int .i64 s.State.Lease.Holder,.int .i64 s.State.Lease.Epoch,.int .i64 s.State.Lease.Until]∧Ints 2 w t2 (flPair s.State.Pairs)∧Ints 5 w t3 (flJob s.State.Jobs)
def OwShot (B:Nat) (w:World) (v:Value) (s:DShot) (F:List Nat):Prop:=∃ t2 t3:Value,v=.agg #[.int .i64 s.Num,.int .i64 s.State.Index,.int .i64 s.State.Time,t2,t3,.int .i64 s.State.Lease.Holder,.int .i64 s.State.Lease.Epoch,.int .i64 s.State.Lease.Until]∧OwnI B 362 2 w t2 (flPair s.State.Pairs)∧OwnI B 366 5 w t3 (flJob s.State.Jobs)∧F=feet [t2] ++ feet [t3]
def MkShot (B:Nat) (w:World) (v:Value) (s:DShot) (F:List Nat) (q:Int):Prop:=∃ t2 t3:Value,v=.agg #[.int .i64 s.Num,.int .i64 s.State.Index,.int .i64 s.State.Time,t2,t3,.int .i64 s.State.Lease.Holder,.int .i64 s.State.Lease.Epoch,.int .i64 s.State.Lease.Until]∧OwnI B 362 2 w t2 (run q (s.State.Pairs.length * 2))∧OwnI B 366 5 w t3 (run (q+(s.State.Pairs.length * 2:Nat)) (s.State.Jobs.length * 5))∧F=feet [t2] ++ feet [t3]
section
variable {B B':Nat} {w w':World} {v:Value} {s s':DShot} {F:List Nat} {q:Int}
theorem IsShot.keep (h:IsShot B w v s) (x:Chg B w w'):IsShot B w' v s:=let ⟨t2,t3,e,h2,h3⟩:=h;⟨t2,t3,e,h2.keep x,h3.keep x⟩
theorem IsShot.mono (h:IsShot B w v s) (x:B'≤B):IsShot B' w v s:=let ⟨t2,t3,e,h2,h3⟩:=h;⟨t2,t3,e,h2.mono x,h3.mono x⟩
theorem IsShot.ext (h:IsShot B w v s) (x:Ext w w'):IsShot B w' v s:=let ⟨t2,t3,e,h2,h3⟩:=h;⟨t2,t3,e,Own.ext h2 x,Own.ext h3 x⟩
theorem IsShot.ow (h:IsShot B w v s):∃ F,OwShot B w v s F:=let ⟨t2,t3,e,h2,h3⟩:=h;⟨_,t2,t3,e,h2,h3,rfl⟩
theorem IsShot.rd (h:IsShot B w v s):RdShot w v s:=let ⟨t2,t3,e,h2,h3⟩:=h;⟨t2,t3,e,h2.ints,h3.ints⟩
theorem RdShot.shape (h:RdShot w v s):∃ a2 n2 k2 a3 n3 k3,v=.agg #[.int .i64 s.Num,.int .i64 s.State.Index,.int .i64 s.State.Time,.slice a2 n2 k2,.slice a3 n3 k3,.int .i64 s.State.Lease.Holder,.int .i64 s.State.Lease.Epoch,.int .i64 s.State.Lease.Until]:=by
 obtain⟨t2,t3,rfl,h2,h3⟩:=h
 obtain⟨a2,n2,k2,rfl⟩:=h2.shape
 obtain⟨a3,n3,k3,rfl⟩:=h3.shape
 exact⟨a2,n2,k2,a3,n3,k3,rfl⟩
theorem RdShot.ext (h:RdShot w v s) (x:Ext w w'):RdShot w' v s:=let ⟨t2,t3,e,h2,h3⟩:=h;⟨t2,t3,e,h2.ext x,h3.ext x⟩
theorem OwShot.rd (h:OwShot B w v s F):RdShot w v s:=let ⟨t2,t3,e,h2,h3,_⟩:=h;⟨t2,t3,e,h2.ints,h3.ints⟩
theorem OwShot.is (h:OwShot B w v s F):IsShot B w v s:=let ⟨t2,t3,e,h2,h3,_⟩:=h;⟨t2,t3,e,h2,h3⟩
theorem OwShot.ext (h:OwShot B w v s F) (x:Ext w w'):OwShot B w' v s F:=let ⟨t2,t3,e,h2,h3,hF⟩:=h;⟨t2,t3,e,Own.ext h2 x,Own.ext h3 x,hF⟩
theorem OwShot.keep (h:OwShot B w v s F) (x:Chg B w w'):OwShot B w' v s F:=let ⟨t2,t3,e,h2,h3,hF⟩:=h;⟨t2,t3,e,h2.keep x,h3.keep x,hF⟩
theorem OwShot.mono (h:OwShot B w v s F) (x:B'≤B):OwShot B' w v s F:=let ⟨t2,t3,e,h2,h3,hF⟩:=h;⟨t2,t3,e,h2.mono x,h3.mono x,hF⟩
theorem OwShot.upd (h:OwShot B w v s F) {fs:List Nat} (x:Upd w w' fs) (hn:∀ k,k ∈ F→k ∈ fs→False):OwShot B w' v s F:=by
 obtain⟨t2,t3,e,h2,h3,rfl⟩:=h
 exact⟨t2,t3,e,OwnI.upd' h2 x (fun k h=>hn k (List.mem_append_left _ h)),OwnI.upd' h3 x (fun k h=>hn k (List.mem_append_right _ h)),rfl⟩
theorem OwShot.low (h:OwShot B w v s F):∀ k,k ∈ F→B≤k∧k<w.heap.size:=by
 obtain⟨t2,t3,e,h2,h3,rfl⟩:=h
 intro k hk
 rcases List.mem_append.1 hk with h|h
 ·
  exact h2.foot k h
 exact h3.foot k h
theorem MkShot.ext (h:MkShot B w v s F q) (x:Ext w w'):MkShot B w' v s F q:=let ⟨t2,t3,e,h2,h3,hF⟩:=h;⟨t2,t3,e,Own.ext h2 x,Own.ext h3 x,hF⟩
end
def RdRows (w:World) (v:Value) (l:List (List Int)):Prop:=Nest 0 w v (nestInt64S l)
def OwRows (B:Nat) (w:World) (v:Value) (l:List (List Int)) (F:List Nat):Prop:=∃ ss:List Value,OwnNs B 62 2 0 w v (nestInt64S l) ss∧F=feet (v :: ss)
def MkRows (B:Nat) (w:World) (v:Value) (l:List (List Int)) (F:List Nat) (q:Int):Prop:=∃ ss:List Value,OwnNs B 62 2 0 w v (marks 0 q (nestInt64S l)) ss∧F=feet (v :: ss)
section
variable {B B':Nat} {w w':World} {v:Value} {l:List (List Int)} {F:List Nat} {q:Int}
theorem RdRows.shape (h:RdRows w v l):∃ a n k,v=.slice a n k:=Nest.shape h
theorem RdRows.ext (h:RdRows w v l) (x:Ext w w'):RdRows w' v l:=Nest.ext h x
theorem OwRows.of (h:OwnNest B 62 2 0 w v (nestInt64S l)):∃ F,OwRows B w v l F:=let ⟨ss,h⟩:=h;⟨_,ss,h,rfl⟩
theorem OwRows.rd (h:OwRows B w v l F):RdRows w v l:=let ⟨_,h,_⟩:=h;h.nest
theorem OwRows.ext (h:OwRows B w v l F) (x:Ext w w'):OwRows B w' v l F:=let ⟨s,h,e⟩:=h;⟨s,h.ext x,e⟩
theorem OwRows.keep (h:OwRows B w v l F) (x:Chg B w w'):OwRows B w' v l F:=let ⟨s,h,e⟩:=h;⟨s,h.keep x,e⟩
theorem OwRows.mono (h:OwRows B w v l F) (x:B'≤B):OwRows B' w v l F:=let ⟨s,h,e⟩:=h;⟨s,h.mono x,e⟩
theorem OwRows.upd (h:OwRows B w v l F) {fs:List Nat} (x:Upd w w' fs) (hn:∀ k,k ∈ F→k ∈ fs→False):OwRows B w' v l F:=by
 obtain⟨s,h,rfl⟩:=h
 exact⟨s,h.upd x hn,rfl⟩
theorem OwRows.low (h:OwRows B w v l F):∀ k,k ∈ F→B≤k∧k<w.heap.size:=by
 obtain⟨s,h,rfl⟩:=h
 exact h.foot
theorem MkRows.ext (h:MkRows B w v l F q) (x:Ext w w'):MkRows B w' v l F q:=let ⟨s,h,e⟩:=h;⟨s,h.ext x,e⟩
end
end Go.Proofs.YtkpmbocbbgocbaaGreat
