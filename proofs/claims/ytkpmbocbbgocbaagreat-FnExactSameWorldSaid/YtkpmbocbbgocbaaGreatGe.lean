/- Nest2 KA Q1 Q4 KT. -/
import Derived.Test.YtkpmbocbbgocbaaGreatGa
import Derived.Deep.AppendLies
import Derived.Deep.RegionLaw
import Derived.Test.YtkpmbocbbgocbaaGreatGb
set_option linter.unusedSimpArgs false
set_option linter.unusedVariables false
set_option maxHeartbeats 8000000
set_option maxRecDepth 100000
namespace Go.G8
open Go.RowKit
theorem Upd.grown {w w':World} {row:Option Nat} {fs:List Nat} (h:w.grownBy w' row) (hr:∀ k,row=some k→k ∈ fs):Upd w w' fs :=
 ⟨h.os,h.tape,h.output,h.size,fun i hi hn=>h.block i hi (fun e=>hn (hr i e.symm))⟩
theorem Upd.own {a w w':World} {B:Nat} {e:TypeId} {n:Nat} {v:Value} {cs:List Value} {fs:List Nat} (h:Upd a w fs) (hown:Own B e n w v cs) (hB:a.heap.size≤B) (hg:w.grownBy w' v.ownBlock):Upd a w' fs :=
 ⟨hg.os.trans h.os,hg.tape.trans h.tape,hg.output.trans h.output,Nat.le_trans h.size hg.size,fun i hi hn=>(hg.block i (Nat.lt_of_lt_of_le hi h.size) (fun e=>by have:=(hown.lt e.symm).1;omega)).trans (h.block i hi hn)⟩
theorem wp_append_at {P:Program} {w:World} {ops:Array Oper} {rest:List Oper} {o:Oper} {a:Act} {Q:Exit→Act→World→Prop} (hgd:o.guard=none) (s x:Operand) (t:TypeId)
  (ho:o.op=.call { callee:=.builtin .append,args:=#[s,x],argTypes:=#[t,t] })
  (e:TypeId) (i:TypeInfo) (z:Value) (size bytes:Nat) (ht:P.underlying t=some (.slice e)) (hi:P.info? e=some i) (hz:i.zero=some z)
  (hsize:i.size=size) (hby:i.bytes=bytes) (hzs:z.cells.size=size) (hsz:0<size)
  (B:Nat) (v:Value) (cs:List Value) (hs:a.eval s=v) (hown:Own B e size w v cs) (ad:Addr) (m c:Nat) (news:List Value) (hx:a.eval x=.slice (some ad) m c) (hl:news.length=m * size) (hnews:∀ j u,news[j]?=some u→w.cell? (ad.add j)=some u) (h1:∀ u ∈ news,u.oneCell'=true)
  (n:Nat) (hlen:cs.length+news.length≤n * size) (hn:n≤maxLen) (hbytes:n * bytes≤140737488355328) (hbase:B≤w.heap.size)
  (h:∀ v' w',Own B e size w' v' (cs ++ news)→w.grownBy w' v.ownBlock→(v'.ownBlock=v.ownBlock ∨ v'.ownBlock=some w.heap.size)→wpList P ops Q rest (a.put o.dst v') w'):wpList P ops Q (o :: rest) a w:=by
 obtain⟨len,ho'⟩:=hown
 have hl0:cs.length=len * size:=ho'.1
 have hle:len+m≤n:=by
  have:(len+m) * size≤n * size:=by rw [Nat.add_mul];omega
  exact Nat.le_of_mul_le_mul_right this hsz
 exact wpList_append_own_at w hgd s x t ho B e i z size bytes ht hi hz hsize hby hzs hsz v len cs hs ho' ad m c news hx hl hnews h1 (Nat.le_trans hle hn) (Nat.le_trans (Nat.mul_le_mul_right _ hle) hbytes) hbase (fun v' w' h2 h3 _ h5=>h v' w' ⟨_,h2⟩ h3 h5)
theorem wid_snoc {n:Nat} {rows:List NRow} (hw:Wid n rows) {r:NRow} (hr:r.1.length=n):Wid n (rows ++ [r]):=by
 intro x hx
 rcases List.mem_append.1 hx with h|h
 ·
  exact hw x h
 simp at h;subst h;exact hr
theorem OwnNs.snoc {B B2:Nat} {e e1:TypeId} {n:Nat} {w w':World} {v v':Value} {rows:List NRow} {ss:List Value} {r:NRow} {t:Value} (h:OwnNs B e e1 n w v rows ss) (hr:r.1.length=n)
  (ht:OwnI B2 e1 1 w t r.2) (hB:B≤B2) (hlow:∀ k,k ∈ feet (v :: ss)→k<B2)
  (hown:Own B e (n+1) w' v' (ncells rows ss ++ ncell (r,t))) (hg:w.grownBy w' v.ownBlock) (hat:v'.ownBlock=v.ownBlock ∨ v'.ownBlock=some w.heap.size):OwnNs B e e1 n w' v' (rows ++ [r]) (ss ++ [t]):=by
 have hf:=h.foot
 obtain⟨hw,hl,ho,hin⟩:=h
 have hU:Upd w w' (feet [v]):=Upd.grown hg (fun k hk=>by simp [feet,hk])
 have hv':∀ k,k ∈ feet [v']→k ∈ feet [v] ∨ k=w.heap.size:=by
  intro k hk
  simp only [feet,List.mem_filterMap,List.mem_singleton,exists_eq_left] at hk ⊢
  rcases hat with h'|h'
  ·
   exact .inl (h' ▸ hk)
  rw [h'] at hk;injection hk with hk;exact .inr hk.symm
 have hlt:∀ k,k ∈ feet [t]→B2≤k∧k<w.heap.size:=by
  intro k hk
  simp only [feet,List.mem_filterMap,List.mem_singleton,exists_eq_left] at hk
  exact Own.lt ht hk
 have hvl:∀ k,k ∈ feet [v]→k ∈ feet (v :: ss):=by
  intro k hk
  simp only [feet,List.mem_filterMap] at hk ⊢
  obtain⟨u,hu,hk⟩:=hk
  simp at hu;subst hu
  exact⟨u,by simp,hk⟩
 refine⟨wid_snoc hw hr,by simp [hl],by rw [ncells_snoc hl];exact hown,?_⟩
 have hin':Inner B e1 w' v' rows ss:=⟨fun i s q h1 h2=>OwnI.upd' (hin.own i s q h1 h2) hU (fun k h3 h4=>hin.out i s k h1 h3 h4),hin.two,fun i s k h1 h2 h3=>by
  rcases hv' k h3 with h4|h4
  ·
   exact hin.out i s k h1 h2 h4
  have:=(hf k (feet_sub h1 h2)).2
  omega⟩
 refine hin'.snoc hl ((OwnI.upd' ht hU (fun k h3 h4=>?_)).mono hB) (fun i s k h1 h2 h3=>?_) (fun k h1 h2=>?_)
 ·
  have:=hlow k (hvl k h4);have:=(hlt k h3).1;omega
 ·
  have:=hlow k (feet_sub h1 h2);have:=(hlt k h3).1;omega
 have h3:=hlt k h1
 rcases hv' k h2 with h4|h4
 ·
  have:=hlow k (hvl k h4);omega
 omega
theorem ncells_set_slice {n:Nat} {rows:List NRow} {ss:List Value} {k:Nat} {r:NRow} (hw:Wid n rows) (hl:ss.length=rows.length) (hr:rows[k]?=some r) (xs:List Int) (t:Value) :
  ncells (rows.set k (r.1,xs)) (ss.set k t)=(ncells rows ss).set (k * (n+1)+n) t:=by
 induction rows generalizing k ss with
 | nil=>simp at hr
 | cons x rows ih =>
  cases ss with
  | nil=>simp at hl
  | cons s ss =>
   have hx:=hw x (by simp)
   cases k with
   | zero =>
    simp at hr;subst hr
    simp only [ncells,List.set_cons_zero,List.zip_cons_cons,List.flatMap_cons,Nat.zero_mul,Nat.zero_add,ncell]
    rw [List.set_append_left _ _ (by simp;omega),List.set_append_right _ _ (by simp;omega)]
    simp [hx]
   | succ k =>
    have h:=ih (ss:=ss) (k:=k) (fun r hr=>hw r (by simp [hr])) (by simpa using hl) (by simpa using hr)
    simp only [ncells,List.set_cons_succ,List.zip_cons_cons,List.flatMap_cons] at h ⊢
    have hlen:(ncell (x,s)).length=n+1:=by simp [ncell,hx]
    rw [List.set_append_right _ _ (by rw [hlen,Nat.add_mul,Nat.one_mul];omega),hlen,h]
    congr 2
    rw [Nat.add_mul,Nat.one_mul];omega
theorem OwnNs.set_slice {B:Nat} {e e1:TypeId} {n:Nat} {w:World} {rows:List NRow} {ss:List Value} {g len cap:Nat} (h:OwnNs B e e1 n w (.slice (some ⟨g,0,none⟩) len cap) rows ss) {k:Nat} {r:NRow} (hr:rows[k]?=some r) {t:Value} {xs:List Int}
  (ht:OwnI B e1 1 w t xs) (hd:∀ (i:Nat) (s:Value) (f:Nat),i ≠ k→ss[i]?=some s→f ∈ feet [s]→f ∈ feet [t]→False) (hg:g ∉ feet [t]) :
  OwnNs B e e1 n (w.setCell ⟨g,k * (n+1)+n,none⟩ t) (.slice (some ⟨g,0,none⟩) len cap) (rows.set k (r.1,xs)) (ss.set k t):=by
 obtain⟨hw,hl,hown,hin⟩:=h
 have hU:Upd w (w.setCell ⟨g,k * (n+1)+n,none⟩ t) (feet [.slice (some ⟨g,0,none⟩) len cap]):=(Upd.refl w _).setCell (by simp [feet,Value.ownBlock]) _
 have hrl:=hw r (List.mem_of_getElem? hr)
 have hk:k<rows.length:=(List.getElem?_eq_some_iff.1 hr).1
 have hks:k<ss.length:=by omega
 refine⟨wid_set hw k _ (by simpa using hrl),by simpa using hl,?_,⟨fun i s q h1 h2=>?_,fun i j s u f hij h1 h2 h3 h4=>?_,fun i s f h1 h2 h3=>?_⟩⟩
 ·
  rw [ncells_set_slice hw hl hr]
  have hnl:=ncells_len hw hl
  obtain⟨a',len',cap',hv,hcl,hc1,hc2,hcase⟩:=Own.open_ hown
  injection hv with hv1 hv2 hv3
  subst hv2;subst hv3
  rcases hcase with hz|⟨g',cur,ha,hBg,hblk,hcsz,hpre⟩
  ·
   rw [hnl,hz] at hcl
   have:=Nat.mul_pos (show 0<rows.length by omega) (show 0<n+1 by omega)
   omega
  rw [ha] at hv1
  injection hv1 with hv1
  injection hv1 with hv1
  subst hv1
  refine Own.of_blk (hblk.set_ _ _) hBg (by simpa using hcsz) (by rw [List.length_set];exact hcl) hc1 hc2 (hpre.setBoth oM ?_)
  rw [hcsz];exact Nat.mul_le_mul_right _ hc1
 ·
  rcases (Decidable.em (i=k)).symm with hik|rfl
  ·
   rw [List.getElem?_set_ne (fun e=>hik e.symm)] at h1 h2
   exact OwnI.upd' (hin.own i s q h1 h2) hU (fun f h3 h4=>hin.out i s f h1 h3 h4)
  rw [List.getElem?_set_self hks] at h1
  rw [List.getElem?_set_self hk] at h2
  injection h1 with h1;injection h2 with h2;subst h1;subst h2
  exact OwnI.upd' ht hU (fun f h3 h4=>hg (by simp [feet,Value.ownBlock] at h4;rw [← h4];exact h3))
 ·
  rcases (Decidable.em (i=k)).symm with hik|rfl
  ·
   rw [List.getElem?_set_ne (fun e=>hik e.symm)] at h1
   rcases (Decidable.em (j=k)).symm with hjk|rfl
   ·
    rw [List.getElem?_set_ne (fun e=>hjk e.symm)] at h2
    exact hin.two i j s u f hij h1 h2 h3 h4
   rw [List.getElem?_set_self hks] at h2
   injection h2 with h2;subst h2
   exact hd i s f hik h1 h3 h4
  rw [List.getElem?_set_self hks] at h1
  injection h1 with h1;subst h1
  rw [List.getElem?_set_ne oM] at h2
  exact hd j u f oM h2 h4 h3
 rcases (Decidable.em (i=k)).symm with hik|rfl
 ·
  rw [List.getElem?_set_ne (fun e=>hik e.symm)] at h1
  exact hin.out i s f h1 h2 h3
 rw [List.getElem?_set_self hks] at h1
 injection h1 with h1;subst h1
 simp [feet,Value.ownBlock] at h3
 exact hg (by rw [← h3];exact h2)
section
variable {P:Program} {w:World} {B B2:Nat} {e e1:TypeId} {n:Nat} {v:Value} {rows:List NRow} {ss:List Value} {r:NRow} {t:Value}
theorem OwnNs.len (h:OwnNs B e e1 n w v rows ss):∃ a cap,v=.slice a rows.length cap∧rows.length≤cap∧cap≤maxLen:=by
 obtain⟨a,len,cap,h2,h3,h4,h5,_⟩:=Own.open_ h.2.2.1
 rw [ncells_len h.1 h.2.1] at h3
 have:=Nat.eq_of_mul_eq_mul_right oM h3
 subst this
 exact⟨a,cap,h2,h4,h5⟩
theorem OwnNs.open_ (h:OwnNs B e e1 n w v rows ss) (hp:0<rows.length):∃ g cap cur,v=.slice (some ⟨g,0,none⟩) rows.length cap∧rows.length≤cap∧cap≤maxLen∧B≤g∧Blk w g e cur ∧
  ∀ i q u,rows[i]?=some q→ss[i]?=some u→(∀ j y,q.1[j]?=some y→cur[i * (n+1)+j]?=some (.int .i64 y))∧cur[i * (n+1)+n]?=some u:=by
 obtain⟨a,len,cap,h2,h3,h4,h5,hcase⟩:=Own.open_ h.2.2.1
 have hnl:=ncells_len h.1 h.2.1
 have h3':=h3
 rw [hnl] at h3
 have:=Nat.eq_of_mul_eq_mul_right oM h3
 subst this
 rcases hcase with hz|⟨g,cur,rfl,hBg,hblk,hcsz,hpre⟩
 ·
  omega
 refine⟨g,cap,cur,h2,h4,h5,hBg,hblk,fun i q u hq hu=>⟨fun j y hy=>?_,?_⟩⟩
 ·
  have hj:j<q.1.length:=(List.getElem?_eq_some_iff.1 hy).1
  have hqn:=h.1 q (List.mem_of_getElem? hq)
  have h7:=mul_lt_of (List.getElem?_eq_some_iff.1 hq).1 (n+1)
  rw [hpre _ oM]
  exact ncells_int h.1 hq hu hy
 have h7:=mul_lt_of (List.getElem?_eq_some_iff.1 hq).1 (n+1)
 rw [hpre _ oM]
 exact ncells_sl h.1 hq hu
end
theorem Own.typed {B:Nat} {e:TypeId} {n:Nat} {w:World} {v:Value} {cs:List Value} (h:Own B e n w v cs) {X:Nat} (hX:v.ownBlock=some X):∃ cur,Blk w X e cur:=by
 obtain⟨len,h⟩:=h
 rcases h.2 with ⟨h0,_⟩|⟨g,cap,cur,hv,hb,hg,_⟩
 ·
  rw [h0] at hX;simp [Value.ownBlock] at hX
 rw [hv] at hX
 simp [Value.ownBlock] at hX
 subst hX
 exact⟨cur,hg⟩
theorem Blk.same {w:World} {X:Nat} {t t':TypeId} {a b:Array Value} (h:Blk w X t a) (k:Blk w X t' b):t=t':=by
 unfold Blk at h k
 rw [h] at k
 injection k with k;injection k with _ k
theorem OwnNs.typed {B:Nat} {e e1:TypeId} {n:Nat} {w:World} {v:Value} {rows:List NRow} {ss:List Value} (h:OwnNs B e e1 n w v rows ss) {k:Nat} (hk:k ∈ feet (v :: ss)):∃ t cur,Blk w k t cur∧(t=e ∨ t=e1):=by
 simp only [feet,List.mem_filterMap] at hk
 obtain⟨u,hu,hf⟩:=hk
 rcases List.mem_cons.1 hu with rfl|hu
 ·
  obtain⟨cur,hb⟩:=Own.typed h.2.2.1 hf
  exact⟨e,cur,hb,.inl rfl⟩
 obtain⟨i,hi⟩:=List.mem_iff_getElem?.1 hu
 have hlt:i<rows.length:=by have:=(List.getElem?_eq_some_iff.1 hi).1;have:=h.2.1;omega
 obtain⟨cur,hb⟩:=Own.typed (h.2.2.2.own i u rows[i] hi (List.getElem?_eq_getElem hlt)) hf
 exact⟨e1,cur,hb,.inr rfl⟩
theorem OwnI.typed {B:Nat} {e:TypeId} {n:Nat} {w:World} {v:Value} {xs:List Int} (h:OwnI B e n w v xs) {k:Nat} (hk:k ∈ feet [v]):∃ cur,Blk w k e cur:=by
 simp only [feet,List.mem_filterMap] at hk
 obtain⟨u,hu,hf⟩:=hk
 simp at hu;subst hu
 exact Own.typed h hf
theorem Ext.row {W0 w w':World} {B n:Nat} {e e1:TypeId} {v:Value} {rows:List NRow} {ss:List Value} (h:Ext W0 w) (hown:OwnNs B e e1 n w v rows ss) (hB:W0.heap.size≤B) (hg:w.grownBy w' v.ownBlock):Ext W0 w':=Ext.own h hown.2.2.1 hB hg
theorem Sl.sliced {n:Nat} {w:World} {a:Option Addr} {len cap:Nat} {cs:List Value} (h:Sl n w (.slice a len cap) cs) {l m:Nat} (h1:l≤m) (h2:m≤len):Sl n w (Go.sliced a l m cap n) ((cs.take (m * n)).drop (l * n)):=by
 obtain⟨a',len',cap',e,hl,hlc,hcm,hnil,hc⟩:=h
 injection e with e1 e2 e3
 subst e1;subst e2;subst e3
 unfold Go.sliced
 refine⟨_,_,_,rfl,?_,by omega,by omega,?_,?_⟩
 ·
  have h5:=Nat.mul_le_mul_right n h2
  simp only [List.length_drop,List.length_take,Nat.sub_mul]
  omega
 ·
  intro h
  split at h
  ·
   omega
  rw [Option.map_eq_none_iff] at h
  have:=hnil h
  omega
 intro b off sp h h0
 rw [if_neg oM,Option.map_eq_some_iff] at h
 obtain⟨⟨b',off',sp'⟩,rfl,h4⟩:=h
 obtain⟨rfl,hb,hcell⟩:=hc b' off' sp' rfl oM
 rw [add_lit0] at h4
 injection h4 with h5 h6 h7
 subst h5;subst h6;subst h7
 refine⟨rfl,hb,fun i u hu=>?_⟩
 rw [Nat.add_assoc]
 apply hcell
 rw [List.getElem?_drop] at hu
 rw [List.getElem?_take] at hu
 split at hu
 ·
  exact hu
 cases hu
theorem Ints.take {w:World} {a:Option Addr} {len cap:Nat} {xs:List Int} (h:Ints 1 w (.slice a len cap) xs) {m:Nat} (h2:m≤len):Ints 1 w (.slice a m cap) (xs.take m):=by
 obtain⟨a',len',cap',e,hl,hlc,hcm,hnil,hc⟩:=h
 injection e with e1 e2 e3
 subst e1;subst e2;subst e3
 refine⟨_,_,_,rfl,by simp at hl ⊢;omega,by omega,hcm,hnil,fun b off sp h h0=>?_⟩
 obtain⟨h3,h4,h5⟩:=hc b off sp h oM
 refine⟨h3,h4,fun i u hu=>h5 i u ?_⟩
 rw [List.map_take,List.getElem?_take] at hu
 split at hu
 ·
  exact hu
 cases hu
theorem Ints.sliced {w:World} {a:Option Addr} {len cap:Nat} {xs:List Int} (h:Ints 1 w (.slice a len cap) xs) {l m:Nat} (h1:l≤m) (h2:m≤len):Ints 1 w (Go.sliced a l m cap 1) ((xs.take m).drop l):=by
 have:=Sl.sliced h h1 h2
 simp only [Nat.mul_one,← List.map_take,← List.map_drop] at this
 exact this
theorem Ints.drop {w:World} {a:Option Addr} {cap:Nat} {xs:List Int} (h:Ints 1 w (.slice a xs.length cap) xs) {m:Nat} (h1:m<xs.length) (h2:xs.length≤cap):Ints 1 w (.slice (a.map (fun x=>x.add m)) (xs.length - m) (cap - m)) (xs.drop m):=by
 have:=h.sliced (l:=m) (Nat.le_of_lt h1) (Nat.le_refl _)
 rw [List.take_length] at this
 unfold Go.sliced at this
 rw [if_neg oM,Nat.mul_one] at this
 exact this
end Go.G8
namespace Go.Proofs.YtkpmbocbbgocbaaGreat
open Go.RowKit Go.G8
def RdState (w:World) (v:Value) (s:DState):Prop:=∃ t2 t3:Value,v=.agg #[.int .i64 s.Index,.int .i64 s.Time,t2,t3,.int .i64 s.Lease.Holder,.int .i64 s.Lease.Epoch,.int .i64 s.Lease.Until]∧Ints 2 w t2 (flPair s.Pairs)∧Ints 5 w t3 (flJob s.Jobs)
def OwState (B:Nat) (w:World) (v:Value) (s:DState) (F:List Nat):Prop:=∃ t2 t3:Value,v=.agg #[.int .i64 s.Index,.int .i64 s.Time,t2,t3,.int .i64 s.Lease.Holder,.int .i64 s.Lease.Epoch,.int .i64 s.Lease.Until]∧OwnI B 362 2 w t2 (flPair s.Pairs)∧OwnI B 366 5 w t3 (flJob s.Jobs)∧F=feet [t2] ++ feet [t3]
def MkState (B:Nat) (w:World) (v:Value) (s:DState) (F:List Nat) (q:Int):Prop:=∃ t2 t3:Value,v=.agg #[.int .i64 s.Index,.int .i64 s.Time,t2,t3,.int .i64 s.Lease.Holder,.int .i64 s.Lease.Epoch,.int .i64 s.Lease.Until]∧OwnI B 362 2 w t2 (run q (s.Pairs.length * 2))∧OwnI B 366 5 w t3 (run (q+(s.Pairs.length * 2:Nat)) (s.Jobs.length * 5))∧F=feet [t2] ++ feet [t3]
section
variable {B B':Nat} {w w':World} {v:Value} {s s':DState} {F:List Nat} {q:Int}
theorem IsState.keep (h:IsState B w v s) (x:Chg B w w'):IsState B w' v s:=let ⟨t2,t3,e,h2,h3⟩:=h;⟨t2,t3,e,h2.keep x,h3.keep x⟩
theorem IsState.mono (h:IsState B w v s) (x:B'≤B):IsState B' w v s:=let ⟨t2,t3,e,h2,h3⟩:=h;⟨t2,t3,e,h2.mono x,h3.mono x⟩
theorem IsState.ext (h:IsState B w v s) (x:Ext w w'):IsState B w' v s:=let ⟨t2,t3,e,h2,h3⟩:=h;⟨t2,t3,e,Own.ext h2 x,Own.ext h3 x⟩
theorem IsState.rd (h:IsState B w v s):RdState w v s:=let ⟨t2,t3,e,h2,h3⟩:=h;⟨t2,t3,e,h2.ints,h3.ints⟩
theorem RdState.shape (h:RdState w v s):∃ a2 n2 k2 a3 n3 k3,v=.agg #[.int .i64 s.Index,.int .i64 s.Time,.slice a2 n2 k2,.slice a3 n3 k3,.int .i64 s.Lease.Holder,.int .i64 s.Lease.Epoch,.int .i64 s.Lease.Until]:=by
 obtain⟨t2,t3,rfl,h2,h3⟩:=h
 obtain⟨a2,n2,k2,rfl⟩:=h2.shape
 obtain⟨a3,n3,k3,rfl⟩:=h3.shape
 exact⟨a2,n2,k2,a3,n3,k3,rfl⟩
theorem RdState.ext (h:RdState w v s) (x:Ext w w'):RdState w' v s:=let ⟨t2,t3,e,h2,h3⟩:=h;⟨t2,t3,e,h2.ext x,h3.ext x⟩
theorem OwState.rd (h:OwState B w v s F):RdState w v s:=let ⟨t2,t3,e,h2,h3,_⟩:=h;⟨t2,t3,e,h2.ints,h3.ints⟩
theorem OwState.is (h:OwState B w v s F):IsState B w v s:=let ⟨t2,t3,e,h2,h3,_⟩:=h;⟨t2,t3,e,h2,h3⟩
theorem OwState.ext (h:OwState B w v s F) (x:Ext w w'):OwState B w' v s F:=let ⟨t2,t3,e,h2,h3,hF⟩:=h;⟨t2,t3,e,Own.ext h2 x,Own.ext h3 x,hF⟩
theorem OwState.keep (h:OwState B w v s F) (x:Chg B w w'):OwState B w' v s F:=let ⟨t2,t3,e,h2,h3,hF⟩:=h;⟨t2,t3,e,h2.keep x,h3.keep x,hF⟩
theorem OwState.mono (h:OwState B w v s F) (x:B'≤B):OwState B' w v s F:=let ⟨t2,t3,e,h2,h3,hF⟩:=h;⟨t2,t3,e,h2.mono x,h3.mono x,hF⟩
theorem OwState.upd (h:OwState B w v s F) {fs:List Nat} (x:Upd w w' fs) (hn:∀ k,k ∈ F→k ∈ fs→False):OwState B w' v s F:=by
 obtain⟨t2,t3,e,h2,h3,rfl⟩:=h
 exact⟨t2,t3,e,OwnI.upd' h2 x (fun k h=>hn k (List.mem_append_left _ h)),OwnI.upd' h3 x (fun k h=>hn k (List.mem_append_right _ h)),rfl⟩
theorem OwState.low (h:OwState B w v s F):∀ k,k ∈ F→B≤k∧k<w.heap.size:=by
 obtain⟨t2,t3,e,h2,h3,rfl⟩:=h
 intro k hk
 rcases List.mem_append.1 hk with h|h
 ·
  exact h2.foot k h
 exact h3.foot k h
theorem MkState.ext (h:MkState B w v s F q) (x:Ext w w'):MkState B w' v s F q:=let ⟨t2,t3,e,h2,h3,hF⟩:=h;⟨t2,t3,e,Own.ext h2 x,Own.ext h3 x,hF⟩
end
def RdShot (w:World) (v:Value) (s:DShot):Prop:=∃ t2 t3:Value,v=.agg #[.int .i64 s.Num,.int .i64 s.State.Index,.int .i64 s.State.Time,t2,t3,.int .i64 s.State.Lease.Holder,.int .i64 s.State.Lease.Epoch,.int .i64 s.State.Lease.Until]∧Ints 2 w t2 (flPair s.State.Pairs)∧Ints 5 w t3 (flJob s.State.Jobs)
def OwShot (B:Nat) (w:World) (v:Value) (s:DShot) (F:List Nat):Prop:=∃ t2 t3:Value,v=.agg #[.int .i64 s.Num,.int .i64 s.State.Index,.int .i64 s.State.Time,t2,t3,.int .i64 s.State.Lease.Holder,.int .i64 s.State.Lease.Epoch,.int .i64 s.State.Lease.Until]∧OwnI B 362 2 w t2 (flPair s.State.Pairs)∧OwnI B 366 5 w t3 (flJob s.State.Jobs)∧F=feet [t2] ++ feet [t3]
def MkShot (B:Nat) (w:World) (v:Value) (s:DShot) (F:List Nat) (q:Int):Prop:=∃ t2 t3:Value,v=.agg #[.int .i64 s.Num,.int .i64 s.State.Index,.int .i64 s.State.Time,t2,t3,.int .i64 s.State.Lease.Holder,.int .i64 s.State.Lease.Epoch,.int .i64 s.State.Lease.Until]∧OwnI B 362 2 w t2 (run q (s.State.Pairs.length * 2))∧OwnI B 366 5 w t3 (run (q+(s.State.Pairs.length * 2:Nat)) (s.State.Jobs.length * 5))∧F=feet [t2] ++ feet [t3]
section
variable {B B':Nat} {w w':World} {v:Value} {s s':DShot} {F:List Nat} {q:Int}
theorem IsShot.keep (h:IsShot B w v s) (x:Chg B w w'):IsShot B w' v s:=let ⟨t2,t3,e,h2,h3⟩:=h;⟨t2,t3,e,h2.keep x,h3.keep x⟩
theorem IsShot.mono (h:IsShot B w v s) (x:B'≤B):IsShot B' w v s:=let ⟨t2,t3,e,h2,h3⟩:=h;⟨t2,t3,e,h2.mono x,h3.mono x⟩
theorem IsShot.ext (h:IsShot B w v s) (x:Ext w w'):IsShot B w' v s:=let ⟨t2,t3,e,h2,h3⟩:=h;⟨t2,t3,e,Own.ext h2 x,Own.ext h3 x⟩
theorem IsShot.rd (h:IsShot B w v s):RdShot w v s:=let ⟨t2,t3,e,h2,h3⟩:=h;⟨t2,t3,e,h2.ints,h3.ints⟩
theorem RdShot.shape (h:RdShot w v s):∃ a2 n2 k2 a3 n3 k3,v=.agg #[.int .i64 s.Num,.int .i64 s.State.Index,.int .i64 s.State.Time,.slice a2 n2 k2,.slice a3 n3 k3,.int .i64 s.State.Lease.Holder,.int .i64 s.State.Lease.Epoch,.int .i64 s.State.Lease.Until]:=by
 obtain⟨t2,t3,rfl,h2,h3⟩:=h
 obtain⟨a2,n2,k2,rfl⟩:=h2.shape
 obtain⟨a3,n3,k3,rfl⟩:=h3.shape
 exact⟨a2,n2,k2,a3,n3,k3,rfl⟩
theorem RdShot.ext (h:RdShot w v s) (x:Ext w w'):RdShot w' v s:=let ⟨t2,t3,e,h2,h3⟩:=h;⟨t2,t3,e,h2.ext x,h3.ext x⟩
theorem OwShot.rd (h:OwShot B w v s F):RdShot w v s:=let ⟨t2,t3,e,h2,h3,_⟩:=h;⟨t2,t3,e,h2.ints,h3.ints⟩
theorem OwShot.is (h:OwShot B w v s F):IsShot B w v s:=let ⟨t2,t3,e,h2,h3,_⟩:=h;⟨t2,t3,e,h2,h3⟩
theorem OwShot.ext (h:OwShot B w v s F) (x:Ext w w'):OwShot B w' v s F:=let ⟨t2,t3,e,h2,h3,hF⟩:=h;⟨t2,t3,e,Own.ext h2 x,Own.ext h3 x,hF⟩
theorem OwShot.keep (h:OwShot B w v s F) (x:Chg B w w'):OwShot B w' v s F:=let ⟨t2,t3,e,h2,h3,hF⟩:=h;⟨t2,t3,e,h2.keep x,h3.keep x,hF⟩
theorem OwShot.mono (h:OwShot B w v s F) (x:B'≤B):OwShot B' w v s F:=let ⟨t2,t3,e,h2,h3,hF⟩:=h;⟨t2,t3,e,h2.mono x,h3.mono x,hF⟩
theorem OwShot.upd (h:OwShot B w v s F) {fs:List Nat} (x:Upd w w' fs) (hn:∀ k,k ∈ F→k ∈ fs→False):OwShot B w' v s F:=by
 obtain⟨t2,t3,e,h2,h3,rfl⟩:=h
 exact⟨t2,t3,e,OwnI.upd' h2 x (fun k h=>hn k (List.mem_append_left _ h)),OwnI.upd' h3 x (fun k h=>hn k (List.mem_append_right _ h)),rfl⟩
theorem OwShot.low (h:OwShot B w v s F):∀ k,k ∈ F→B≤k∧k<w.heap.size:=by
 obtain⟨t2,t3,e,h2,h3,rfl⟩:=h
 intro k hk
 rcases List.mem_append.1 hk with h|h
 ·
  exact h2.foot k h
 exact h3.foot k h
theorem MkShot.ext (h:MkShot B w v s F q) (x:Ext w w'):MkShot B w' v s F q:=let ⟨t2,t3,e,h2,h3,hF⟩:=h;⟨t2,t3,e,Own.ext h2 x,Own.ext h3 x,hF⟩
end
def RdRows (w:World) (v:Value) (l:List (List Int)):Prop:=Nest 0 w v (nestInt64S l)
def OwRows (B:Nat) (w:World) (v:Value) (l:List (List Int)) (F:List Nat):Prop:=∃ ss:List Value,OwnNs B 62 2 0 w v (nestInt64S l) ss∧F=feet (v :: ss)
def MkRows (B:Nat) (w:World) (v:Value) (l:List (List Int)) (F:List Nat) (q:Int):Prop:=∃ ss:List Value,OwnNs B 62 2 0 w v (marks 0 q (nestInt64S l)) ss∧F=feet (v :: ss)
section
variable {B B':Nat} {w w':World} {v:Value} {l:List (List Int)} {F:List Nat} {q:Int}
theorem RdRows.shape (h:RdRows w v l):∃ a n k,v=.slice a n k:=Nest.shape h
theorem RdRows.ext (h:RdRows w v l) (x:Ext w w'):RdRows w' v l:=Nest.ext h x
theorem OwRows.of (h:OwnNest B 62 2 0 w v (nestInt64S l)):∃ F,OwRows B w v l F:=let ⟨ss,h⟩:=h;⟨_,ss,h,rfl⟩
theorem OwRows.rd (h:OwRows B w v l F):RdRows w v l:=let ⟨_,h,_⟩:=h;h.nest
theorem OwRows.ext (h:OwRows B w v l F) (x:Ext w w'):OwRows B w' v l F:=let ⟨s,h,e⟩:=h;⟨s,h.ext x,e⟩
theorem OwRows.keep (h:OwRows B w v l F) (x:Chg B w w'):OwRows B w' v l F:=let ⟨s,h,e⟩:=h;⟨s,h.keep x,e⟩
theorem OwRows.mono (h:OwRows B w v l F) (x:B'≤B):OwRows B' w v l F:=let ⟨s,h,e⟩:=h;⟨s,h.mono x,e⟩
theorem OwRows.upd (h:OwRows B w v l F) {fs:List Nat} (x:Upd w w' fs) (hn:∀ k,k ∈ F→k ∈ fs→False):OwRows B w' v l F:=by
 obtain⟨s,h,rfl⟩:=h
 exact⟨s,h.upd x hn,rfl⟩
theorem OwRows.low (h:OwRows B w v l F):∀ k,k ∈ F→B≤k∧k<w.heap.size:=by
 obtain⟨s,h,rfl⟩:=h
 exact h.foot
theorem MkRows.ext (h:MkRows B w v l F q) (x:Ext w w'):MkRows B w' v l F q:=let ⟨s,h,e⟩:=h;⟨s,h.ext x,e⟩
end
end Go.Proofs.YtkpmbocbbgocbaaGreat
