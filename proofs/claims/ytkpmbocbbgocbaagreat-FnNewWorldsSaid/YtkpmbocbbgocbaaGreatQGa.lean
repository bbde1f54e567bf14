/- Base Model App Dat Box Abb Nest. -/
import Derived.WalkKit
import Derived.WalkSpells
import Derived.WalkLawsBesides
import Derived.Lib.Hide
import Derived.Deep.QuietTactic
import Derived.BigQuiet
import Derived.Deep.RegionHeld3
import Derived.Maps.Own
import Derived.Maps.OwnOps
import Derived.Maps.OwnSet
import Derived.Laws.AppendOwnNone
import Derived.Test.YtkpmbocbbgocbaaGreatRows
import Derived.Laws.Tables
import Derived.Laws.CopyOwn
set_option linter.unusedSimpArgs false
set_option linter.unusedVariables false
set_option maxHeartbeats 8000000
set_option maxRecDepth 100000
namespace Go.G8
end Go.G8
namespace Go.Proofs.YtkpmbocbbgocbaaGreat
open Go.RowKit Go.G8
def Ext(w w':World):Prop:=Below w.heap.size w w'
theorem Ext.refl(w:World):Ext w w:=Below.refl _ _
theorem Ext.size{w w':World}(h:Ext w w'):w.heap.size<=w'.heap.size:=Below.size h
theorem Ext.trans{a b c:World}(h:Ext a b)(k:Ext b c):Ext a c:=Below.trans h (Below.mono k h.size)
theorem Ext.alloc{a b:World}(h:Ext a b)(o:Obj):Ext a (b.alloc o):=Below.alloc h h.size o
theorem Ext.drew{a b:World}(h:Ext a b):Ext a b.drew:=Below.drew h
theorem Ext.drewN{a b:World}(h:Ext a b)(n:Nat):Ext a (b.drewN n):=below_drewN h n
theorem Ext.setCell{a b:World}(h:Ext a b){k o:Nat}{sp:Option _}(hp:a.heap.size<=k)(u:Value):Ext a (b.setCell ⟨k,o,sp⟩ u):=Below.setCell h (p:=⟨k,o,sp⟩) hp u
theorem Ext.cell{w w':World}(h:Ext w w'){p:Addr}{v:Value}(hc:w.cell? p=some v):w'.cell? p=some v :=
  (Below.cell h (World.block_lt_of_cell? w p hc)).trans hc
theorem Ext.cells{w w':World}(h:Ext w w'):(∀b o,b<w.heap.size->w'.cell? ⟨b,o,none⟩=w.cell? ⟨b,o,none⟩)/\(∀b o,b<w.heap.size->w'.frozen? ⟨b,o,none⟩=w.frozen? ⟨b,o,none⟩) :=
  ⟨fun b o hb=>Below.cell (p:=⟨b,o,none⟩) h hb,fun b o hb=>Below.frozen (p:=⟨b,o,none⟩) h hb⟩
def Ret(w:World)(Q:Value->World->Prop)(e:Ending)(w':World):Prop:=∃v,e=.returned v/\Ext w w'/\Q v w'
def Cp(w:World)(v:Value)(e:Ending)(w':World):Prop:=e=.returned v/\Ext w w'
def Sl(n:Nat)(w:World)(v:Value)(cs:List Value):Prop :=
  ∃a len cap,v=.slice a len cap/\cs.length=len*n/\len<=cap/\cap<=maxLen/\(a=none->cap=0) /\
    ∀b off sp,a=some ⟨b,off,sp⟩->0<len->sp=none/\b<w.heap.size/\∀i u,cs[i]?=some u->w.cell? ⟨b,off+i,none⟩=some u
theorem Sl.ext{w w':World}{n:Nat}{v:Value}{cs:List Value}(h:Sl n w v cs)(e:Ext w w'):Sl n w' v cs:=by
  obtain⟨a,len,cap,h1,h2,h3,h4,h5,h6⟩:=h
  exact⟨a,len,cap,h1,h2,h3,h4,h5,fun b off sp ha hp=>⟨(h6 b off sp ha hp).1,Nat.lt_of_lt_of_le (h6 b off sp ha hp).2.1 e.size,fun i u hi=>e.cell ((h6 b off sp ha hp).2.2 i u hi)⟩⟩
theorem Sl.nil(n:Nat)(w:World):Sl n w (.slice none 0 0) []:=⟨none,0,0,rfl,by simp,Nat.le_refl _,by decide,fun _=>rfl,fun _ _ _ h=>by cases h⟩
theorem Sl.open_{n:Nat}{w:World}{v:Value}{cs:List Value}(h:Sl n w v cs):∃a len cap,v=.slice a len cap/\cs.length=len*n/\len<=cap/\cap<=maxLen /\
      ∀i,i<len->∃b off,a=some ⟨b,off,none⟩/\b<w.heap.size/\∀j u,cs[i*n+j]?=some u->w.cell? ⟨b,off+i*n+j,none⟩=some u:=by
  obtain⟨a,len,cap,h1,h2,h3,h4,h5,h6⟩:=h
  refine⟨a,len,cap,h1,h2,h3,h4,fun i hi=>?_⟩
  cases a with
  | none=>have:=h5 rfl;omega
  | some a =>
    obtain⟨b,off,sp⟩:=a
    obtain⟨rfl,h7,h8⟩:=h6 b off sp rfl (by omega)
    exact⟨b,off,rfl,h7,fun j u hu=>by rw[Nat.add_assoc];exact h8 _ u hu⟩
def Aj(n:Nat)(w:World)(v:Value)(xs:List Int):Prop:=Sl n w v (xs.map (.int .i64))
theorem Aj.ext{w w':World}{n:Nat}{v:Value}{l:List Int}(h:Aj n w v l)(e:Ext w w'):Aj n w' v l:=Sl.ext h e
theorem Aj.nil(n:Nat)(w:World):Aj n w (.slice none 0 0) []:=Sl.nil n w
theorem Aj.open_{n:Nat}{w:World}{v:Value}{xs:List Int}(h:Aj n w v xs):∃a len cap,v=.slice a len cap/\xs.length=len*n/\len<=cap/\cap<=maxLen /\
      ∀i,i<len->∃b off,a=some ⟨b,off,none⟩/\b<w.heap.size/\∀j,j<n->∃x,xs[i*n+j]?=some x/\w.cell? ⟨b,off+i*n+j,none⟩=some (.int .i64 x):=by
  obtain⟨a,len,cap,h1,h2,h3,h4,h5⟩:=Sl.open_ h
  refine⟨a,len,cap,h1,by simpa using h2,h3,h4,fun i hi=>?_⟩
  obtain⟨b,off,ha,hb,hc⟩:=h5 i hi
  refine⟨b,off,ha,hb,fun j hj=>?_⟩
  have hl:xs.length=len*n:=by simpa using h2
  have hlt:i*n+j<xs.length:=by
    rw[hl]
    calc i*n+j<i*n+n:=by omega
      _=(i+1)*n:=by rw[Nat.add_mul,Nat.one_mul]
      _<=len*n:=Nat.mul_le_mul_right _ hi
  exact⟨xs[i*n+j],List.getElem?_eq_getElem hlt,hc j _ (by simp[List.getElem?_eq_getElem hlt])⟩
theorem fZ{α:Type}(f:α->List Int){n:Nat}(hf:∀x,(f x).length=n):∀(l:List α) (k j:Nat) (d:α),l[k]?=some d->j<n->(l.flatMap f)[k*n+j]?=(f d)[j]?
  | [],k,j,d,h,_=>by simp at h
  | x::l,0,j,d,h,hj=>by
    simp at h;subst h
    rw[List.flatMap_cons,Nat.zero_mul,Nat.zero_add,List.getElem?_append_left (by rw[hf];exact hj)]
  | x::l,k+1,j,d,h,hj=>by
    rw[List.flatMap_cons,List.getElem?_append_right (by rw[hf,Nat.add_mul,Nat.one_mul];omega),hf]
    rw[show(k+1)*n+j - n=k*n+j by rw[Nat.add_mul,Nat.one_mul];omega]
    exact fZ f hf l k j d (by simpa using h) hj
theorem Jo{α:Type}(f:α->List Int){n:Nat}(hf:∀x,(f x).length=n)(l:List α):(l.flatMap f).length=l.length*n:=by
  induction l with
  | nil=>simp
  | cons x l ih=>rw[List.flatMap_cons,List.length_append,ih,hf,List.length_cons,Nat.add_mul,Nat.one_mul];omega
theorem Aj.recs{α:Type}{f:α->List Int}{n:Nat}(hf:∀x,(f x).length=n)(hn:0<n){w:World}{v:Value}{l:List α}(h:Aj n w v (l.flatMap f)):∃a cap,v=.slice a l.length cap/\l.length<=cap/\cap<=maxLen /\
      ∀i,i<l.length->∃d b off,l[i]?=some d/\a=some ⟨b,off,none⟩/\b<w.heap.size/\∀j u,j<n->(f d)[j]?=some u->w.cell? ⟨b,off+i*n+j,none⟩=some (.int .i64 u):=by
  obtain⟨a,len,cap,rfl,hl,h1,h2,h3⟩:=h.open_
  rw[Jo f hf] at hl
  have hl':l.length=len:=Nat.eq_of_mul_eq_mul_right hn hl
  subst hl'
  refine⟨a,cap,rfl,h1,h2,fun i hi=>?_⟩
  obtain⟨b,off,ha,hb,hc⟩:=h3 i hi
  refine⟨l[i],b,off,List.getElem?_eq_getElem hi,ha,hb,fun j u hj hu=>?_⟩
  obtain⟨x,hx,hcell⟩:=hc j hj
  rw[fZ f hf l i j l[i] (List.getElem?_eq_getElem hi) hj,hu] at hx
  rw[hcell,Option.some.inj hx]
theorem Yb{α:Type}{p:Nat->α->Prop}:∀(len:Nat),(∀i,i<len->∃y,p i y)->∃l:List α,l.length=len/\∀i y,l[i]?=some y->p i y
  | 0,_=>⟨[],rfl,fun i y h=>by simp at h⟩
  | len+1,h=>by
    obtain⟨l,hl,hp⟩:=Yb len (fun i hi=>h i (by omega))
    obtain⟨y,hy⟩:=h len (by omega)
    refine⟨l++[y],by simp[hl],fun i z hz=>?_⟩
    by_cases hi:i<len
    · rw[List.getElem?_append_left (by omega)] at hz
      exact hp i z hz
    · rw[List.getElem?_append_right (by omega)] at hz
      have hi0:i - l.length=0:=by
        rcases Nat.eq_zero_or_pos (i - l.length) with h0|h0
        · exact h0
        · rw[List.getElem?_eq_none (by simp;omega)] at hz;cases hz
      rw[hi0] at hz
      simp at hz
      subst hz
      obtain rfl:i=len:=by omega
      exact hy
theorem Jz(b off k:Nat):(⟨b,off,none⟩:Addr).add k=⟨b,off+k,none⟩:=by
  unfold Addr.add;split <;> simp_all
theorem Sl.shape{n:Nat}{w:World}{v:Value}{cs:List Value}(h:Sl n w v cs):∃a len cap,v=.slice a len cap:=by
  obtain⟨a,len,cap,h,_⟩:=h
  exact⟨a,len,cap,h⟩
theorem Aj.shape{n:Nat}{w:World}{v:Value}{xs:List Int}(h:Aj n w v xs):∃a len cap,v=.slice a len cap:=Sl.shape h
def run(k:Int):Nat->List Int
  | 0=>[]
  | m+1=>k::run (k+1) m
theorem cL{k L:Nat}(h:k<L)(n:Nat):k*n+n<=L*n:=by
  calc k*n+n=(k+1)*n:=by rw[Nat.add_mul,Nat.one_mul]
    _<=L*n:=Nat.mul_le_mul_right _ h
def Own(B:Nat)(e:TypeId)(n:Nat)(w:World)(v:Value)(cs:List Value):Prop:=∃len,w.ownsRow B e n v len cs
theorem Ext.grown{w w':World}(h:Ext w w'):w.grownBy w' none:=⟨h.os,h.tape,h.output,Below.size h,fun k hk _=>Below.block h k hk⟩
theorem Own.ext{B:Nat}{e:TypeId}{n:Nat}{w w':World}{v:Value}{cs:List Value}(h:Own B e n w v cs)(x:Ext w w'):Own B e n w' v cs:=by
  obtain⟨len,h⟩:=h
  exact⟨len,h.kept x.grown (by cases hv:v.ownBlock <;> simp)⟩
theorem Own.sl{B:Nat}{e:TypeId}{n:Nat}{w:World}{v:Value}{cs:List Value}(h:Own B e n w v cs):Sl n w v cs:=by
  obtain⟨len,h0,h|⟨g,cap,cur,rfl,hb,hg,h1,h2,h3,h4⟩⟩:=h
  · obtain⟨rfl,rfl⟩:=h
    have:cs=[]:=List.eq_nil_of_length_eq_zero (by simpa using h0)
    subst this
    exact Sl.nil n w
  · refine⟨some ⟨g,0,none⟩,len,cap,rfl,h0,h1,h2,fun h=>(by cases h),fun b off sp hs _=>?_⟩
    injection hs with hs;injection hs with e1 e2 e3
    subst e1;subst e2;subst e3
    refine⟨rfl,(Array.getElem?_eq_some_iff.1 hg).1,fun i u hi=>?_⟩
    rw[cell_of_row w g (0+i) cur e (0,0) hg,Nat.zero_add]
    rw[<-h4,List.getElem?_take] at hi
    split at hi
    · simpa using hi
    · cases hi
theorem Own.lt{B:Nat}{e:TypeId}{n:Nat}{w:World}{v:Value}{cs:List Value}(h:Own B e n w v cs){k:Nat}(hk:v.ownBlock=some k):B<=k/\k<w.heap.size:=by
  obtain⟨len,h⟩:=h
  exact h.lt k hk
theorem Own.kept{B:Nat}{e:TypeId}{n:Nat}{w w':World}{v:Value}{cs:List Value}{row:Option Nat}(h:Own B e n w v cs)(hg:w.grownBy w' row)(hne:v.ownBlock=none\/v.ownBlock≠row):Own B e n w' v cs:=by
  obtain⟨len,h⟩:=h
  exact⟨len,h.kept hg hne⟩
theorem Own.mono{B B':Nat}{e:TypeId}{n:Nat}{w:World}{v:Value}{cs:List Value}(h:Own B e n w v cs)(hb:B'<=B):Own B' e n w v cs:=by
  obtain⟨len,h0,h|⟨g,cap,cur,hv,hb',hr⟩⟩:=h
  · exact⟨len,h0,.inl h⟩
  · exact⟨len,h0,.inr ⟨g,cap,cur,hv,Nat.le_trans hb hb',hr⟩⟩
def Af(B:Nat)(e:TypeId)(n:Nat)(w:World)(v:Value)(xs:List Int):Prop:=Own B e n w v (xs.map (.int .i64))
theorem Af.ints{B:Nat}{e:TypeId}{n:Nat}{w:World}{v:Value}{xs:List Int}(h:Af B e n w v xs):Aj n w v xs:=Own.sl h
def Blk(w:World)(g:Nat)(t:TypeId)(cs:Array Value):Prop:=w.heap[g]?=some (.cells cs t (0,0))
section
variable {w w':World} {g:Nat} {t:TypeId} {cs:Array Value}
theorem Blk.lt(h:Blk w g t cs):g<w.heap.size:=by
  rcases Nat.lt_or_ge g w.heap.size with hlt|hge
  · exact hlt
  · unfold Blk at h;rw[Array.getElem?_eq_none hge] at h;cases h
theorem Blk.cell(h:Blk w g t cs)(i:Nat):w.cell? ⟨g,i,none⟩=cs[i]?:=cell_of_row w g i cs t (0,0) h
theorem Blk.frozen(h:Blk w g t cs)(i:Nat):w.frozen? ⟨g,i,none⟩=false:=by
  unfold Blk at h
  simp[World.frozen?,h]
theorem Blk.new(w:World)(t:TypeId)(cs:Array Value):Blk (w.alloc (.cells cs t)) w.heap.size t cs:=heap_alloc_new w _
theorem Blk.drew(h:Blk w g t cs):Blk w.drew g t cs:=h
theorem Blk.drewN(h:Blk w g t cs)(n:Nat):Blk (w.drewN n) g t cs:=h
theorem Blk.alloc(h:Blk w g t cs)(o:Obj):Blk (w.alloc o) g t cs:=(Below.heap_alloc w o g h.lt).trans h
theorem Blk.set_(h:Blk w g t cs)(i:Nat)(u:Value):Blk (w.setCell ⟨g,i,none⟩ u) g t (cs.setIfInBounds i u):=by
  unfold Blk at h ⊢
  simp[World.setCell,Array.getElem?_modify,h]
theorem Blk.far(h:Blk w g t cs){p:Addr}(hp:g≠p.block)(u:Value):Blk (w.setCell p u) g t cs:=(Below.heap_setCell w p u g hp).trans h
theorem Blk.ext(h:Blk w g t cs)(x:Ext w w'):Blk w' g t cs:=(Below.block x g h.lt).trans h
theorem Blk.grown{row:Option Nat}(h:Blk w g t cs)(hb:w.grownBy w' row)(hg:some g≠row):Blk w' g t cs:=(hb.block g h.lt hg).trans h
end
def Pre(cur:Array Value)(m:Nat)(cs:List Value):Prop:=∀j,j<m->cur[j]?=cs[j]?
theorem Pre.zero(cur:Array Value)(cs:List Value):Pre cur 0 cs:=fun j h=>by omega
theorem Pre.set{cur:Array Value}{m:Nat}{cs:List Value}{u:Value}(h:Pre cur m cs)(hu:cs[m]?=some u)(hm:m<cur.size):Pre (cur.setIfInBounds m u) (m+1) cs:=by
  intro j hj
  by_cases e:j=m
  · subst e;rw[hu];simp[hm]
  · rw[Array.getElem?_setIfInBounds_ne (fun h=>e h.symm)];exact h j (by omega)
theorem Pre.cast{cur:Array Value}{m m':Nat}{cs:List Value}(h:Pre cur m cs)(e:m=m'):Pre cur m' cs:=e ▸ h
theorem Own.of_blk{B:Nat}{e:TypeId}{n:Nat}{w:World}{g len cap:Nat}{cur:Array Value}{cs:List Value}(h:Blk w g e cur)(hB:B<=g)(hs:cur.size=cap*n)(hl:cs.length=len*n)
    (hc:len<=cap) (hm:cap<=maxLen) (hp:Pre cur (len*n) cs):Own B e n w (.slice (some ⟨g,0,none⟩) len cap) cs:=by
  refine⟨len,hl,.inr ⟨g,cap,cur,rfl,hB,h,hc,hm,hs,?_⟩⟩
  apply List.ext_getElem?
  intro i
  rw[List.getElem?_take]
  split
  · rename_i hi;rw[Array.getElem?_toList];exact hp i hi
  · rename_i hi;rw[List.getElem?_eq_none (by omega)]
structure Upd (w w':World) (fs:List Nat):Prop where
  os:w'.os=w.os
  tape:w'.tape=w.tape
  output:w'.output=w.output
  size:w.heap.size<=w'.heap.size
  block:∀k,k<w.heap.size->k ∉ fs->w'.heap[k]?=w.heap[k]?
theorem Upd.refl(w:World)(fs:List Nat):Upd w w fs:=⟨rfl,rfl,rfl,Nat.le_refl _,fun _ _ _=>rfl⟩
theorem Upd.trans{a b c:World}{fs:List Nat}(h:Upd a b fs)(k:Upd b c fs):Upd a c fs :=
  ⟨k.os.trans h.os,k.tape.trans h.tape,k.output.trans h.output,Nat.le_trans h.size k.size,fun i hi hn=>(k.block i (Nat.lt_of_lt_of_le hi h.size) hn).trans (h.block i hi hn)⟩
theorem Upd.more{a b:World}{fs gs:List Nat}(h:Upd a b fs)(k:∀x,x ∈ fs->x ∈ gs):Upd a b gs :=
  ⟨h.os,h.tape,h.output,h.size,fun i hi hn=>h.block i hi (fun x=>hn (k i x))⟩
theorem Ext.upd{a b:World}(h:Ext a b)(fs:List Nat):Upd a b fs:=⟨h.os,h.tape,h.output,Below.size h,fun i hi _=>Below.block h i hi⟩
theorem Upd.ext{a b c:World}{fs:List Nat}(h:Upd a b fs)(k:Ext b c):Upd a c fs:=h.trans (k.upd fs)
theorem Upd.alloc{a b:World}{fs:List Nat}(h:Upd a b fs)(o:Obj):Upd a (b.alloc o) fs:=h.ext ((Ext.refl b).alloc o)
theorem Upd.setCell{a b:World}{fs:List Nat}(h:Upd a b fs){p:Addr}(hp:p.block ∈ fs)(u:Value):Upd a (b.setCell p u) fs :=
  h.trans ⟨rfl,rfl,rfl,by simp[World.setCell],fun k _ hn=>Below.heap_setCell _ _ _ _ (fun e=>hn (e ▸ hp))⟩
theorem Upd.setNew{a b:World}{fs:List Nat}(h:Upd a b fs){p:Addr}(hp:a.heap.size<=p.block)(u:Value):Upd a (b.setCell p u) fs :=
  ⟨h.os,h.tape,h.output,by simpa[World.setCell] using h.size,fun k hk hn=>(Below.heap_setCell _ _ _ _ (by omega)).trans (h.block k hk hn)⟩
theorem Upd.below{a b:World}{fs:List Nat}{B:Nat}(h:Upd a b fs)(hB:∀x,x ∈ fs->B<=x)(hs:B<=a.heap.size):Below B a b :=
  ⟨h.os,h.tape,h.output,h.size,fun k hk=>h.block k (by omega) (fun hm=>by have:=hB k hm;omega)⟩
theorem Blk.upd{w w':World}{g:Nat}{t:TypeId}{cs:Array Value}{fs:List Nat}(h:Blk w g t cs)(hb:Upd w w' fs)(hg:g ∉ fs):Blk w' g t cs:=(hb.block g h.lt hg).trans h
def Be(vs:List Value):List Nat:=vs.filterMap Value.ownBlock
theorem Own.upd{B:Nat}{e:TypeId}{n:Nat}{w w':World}{v:Value}{cs:List Value}{fs:List Nat}(h:Own B e n w v cs)(hg:Upd w w' fs)(hne:∀k,v.ownBlock=some k->k ∉ fs):Own B e n w' v cs:=by
  obtain⟨len,h0,h|⟨g,cap,cur,rfl,hb,hgg,rest⟩⟩:=h
  · exact⟨len,h0,.inl h⟩
  · refine⟨len,h0,.inr ⟨g,cap,cur,rfl,hb,?_,rest⟩⟩
    rw[hg.block g (Array.getElem?_eq_some_iff.1 hgg).1 (hne g rfl)]
    exact hgg
structure Chg (B:Nat) (w w':World):Prop where
  size:w.heap.size<=w'.heap.size
  block:∀k,B<=k->k<w.heap.size->w'.heap[k]?=w.heap[k]?
theorem Chg.refl(B:Nat)(w:World):Chg B w w:=⟨Nat.le_refl _,fun _ _ _=>rfl⟩
theorem Chg.ext{B:Nat}{a b c:World}(h:Chg B a b)(k:Ext b c):Chg B a c:=⟨Nat.le_trans h.size k.size,fun i hB hi=>(Below.block k i (Nat.lt_of_lt_of_le hi h.size)).trans (h.block i hB hi)⟩
theorem Chg.alloc{B:Nat}{a b:World}(h:Chg B a b)(o:Obj):Chg B a (b.alloc o):=h.ext ((Ext.refl b).alloc o)
theorem Chg.drew{B:Nat}{a b:World}(h:Chg B a b):Chg B a b.drew:=h.ext ((Ext.refl b).drew)
theorem Chg.drewN{B:Nat}{a b:World}(h:Chg B a b)(n:Nat):Chg B a (b.drewN n):=h.ext ((Ext.refl b).drewN n)
theorem Chg.setLow{B:Nat}{a b:World}(h:Chg B a b){k o:Nat}{sp:Option _}(hp:k<B)(u:Value):Chg B a (b.setCell ⟨k,o,sp⟩ u) :=
  ⟨by simpa[World.setCell] using h.size,fun i hB hi=>(Below.heap_setCell b ⟨k,o,sp⟩ u i (by show i≠k;omega)).trans (h.block i hB hi)⟩
theorem Chg.setNew{B:Nat}{a b:World}(h:Chg B a b){k o:Nat}{sp:Option _}(hp:a.heap.size<=k)(u:Value):Chg B a (b.setCell ⟨k,o,sp⟩ u) :=
  ⟨by simpa[World.setCell] using h.size,fun i hB hi=>(Below.heap_setCell b ⟨k,o,sp⟩ u i (by show i≠k;omega)).trans (h.block i hB hi)⟩
theorem Own.keep{B:Nat}{e:TypeId}{n:Nat}{w w':World}{v:Value}{cs:List Value}(h:Own B e n w v cs)(c:Chg B w w'):Own B e n w' v cs:=by
  obtain⟨len,h0,h|⟨g,cap,cur,rfl,hb,hgg,rest⟩⟩:=h
  · exact⟨len,h0,.inl h⟩
  · refine⟨len,h0,.inr ⟨g,cap,cur,rfl,hb,?_,rest⟩⟩
    rw[c.block g hb (Array.getElem?_eq_some_iff.1 hgg).1]
    exact hgg
theorem Af.keep{B:Nat}{e:TypeId}{n:Nat}{w w':World}{v:Value}{xs:List Int}(h:Af B e n w v xs)(c:Chg B w w'):Af B e n w' v xs:=Own.keep h c
theorem Af.mono{B B':Nat}{e:TypeId}{n:Nat}{w:World}{v:Value}{xs:List Int}(h:Af B e n w v xs)(hb:B'<=B):Af B' e n w v xs:=Own.mono h hb
theorem Af.shape{B:Nat}{e:TypeId}{n:Nat}{w:World}{v:Value}{xs:List Int}(h:Af B e n w v xs):∃a len cap,v=.slice a len cap:=h.ints.shape
theorem Own.open_{B:Nat}{e:TypeId}{n:Nat}{w:World}{v:Value}{cs:List Value}(h:Own B e n w v cs):∃a len cap,v=.slice a len cap/\cs.length=len*n/\len<=cap/\cap<=maxLen /\
      (len=0\/∃g cur,a=some ⟨g,0,none⟩/\B<=g/\Blk w g e cur/\cur.size=cap*n/\Pre cur (len*n) cs):=by
  obtain⟨len,h0,⟨rfl,rfl⟩|⟨g,cap,cur,rfl,hb,hg,h1,h2,h3,h4⟩⟩:=h
  · exact⟨none,0,0,rfl,h0,Nat.le_refl _,by decide,.inl rfl⟩
  · refine⟨_,len,cap,rfl,h0,h1,h2,.inr ⟨g,cur,rfl,hb,hg,h3,fun j hj=>?_⟩⟩
    rw[<-h4,List.getElem?_take,if_pos hj,Array.getElem?_toList]
theorem Own.empty{B:Nat}{e:TypeId}{n:Nat}{w:World}{v:Value}{cs:List Value}(h:Own B e n w v cs)(hc:cs=[])(cs':List Value)(hc':cs'=[]):Own B e n w v cs':=by subst hc;subst hc';exact h
theorem bP{P:Program}{id:Nat}{Q:Exit->Act->World->Prop}{a:Act}{w:World}{l:List Oper}(hm:P.follows .mixedOrders=true)(hB:Region.lexB .any l.toArray=true)
    (h:wpQuiet P l.toArray (fun w'=>Ext w w') (fun a'=>∀w',Ext w w'->Q .normal a' w') l a):(Code.region id l.toArray true).wp P Q a w :=
  wp_region_quiet (C:=fun w'=>Ext w w') hm hB (Ext.drew (Ext.refl w)) (by simpa using h)
theorem Br{P:Program}{o:Oper}{a:Act}{C:World->Prop}{K:Act->Prop}(t:TypeId)(x:Operand)(A:Addr)(v:Value)(ho:o.op=.load t x)(hx:a.eval x=.pointer (some A))
    (hr:∀w,C w->(Instr.loadAt t (.pointer (some A))).run P w=.ok v w) (hk:K (a.put o.dst v)):o.quiet P a C K :=
  ⟨v,fun w hw=>by
    have h:=hr w hw
    unfold Oper.quietAt execOp
    simp only[ho,Sem.run_bind,hx,h]
    simp[Oper.quietUpon],hk⟩
theorem Ls{P:Program}{o:Oper}{a:Act}{C:World->Prop}{K:Act->Prop}(t:TypeId)(m x:Operand)(M X:Value)(v:Value)(ho:o.op=.lookup t m x false)(hm:a.eval m=M)(hx:a.eval x=X)
    (hr:∀w,C w->(Instr.lookup t M X false).run P w=.ok v w) (hk:K (a.put o.dst v)):o.quiet P a C K :=
  ⟨v,fun w hw=>by
    have h:=hr w hw
    unfold Oper.quietAt execOp
    simp only[ho,Sem.run_bind,hm,hx,h]
    simp[Oper.quietUpon],hk⟩
def Mz(P:Program)(k e:TypeId)(w:World)(b n:Nat)(S:List Int):Prop :=
  ∃D:DataW Unit,w.ownsMap P k (plainElem P e) b n D/\Go.Maps.IsMap D/\∀x,(Lit.int .i64 x).wf=true->D.atKey (.int .i64 x) (.lit (.bool false))=.lit (.bool (decide (x ∈ S)))
section
variable {P:Program} {k e:TypeId} {w w':World} {b n:Nat} {S:List Int}
theorem Mz.made(P:Program)(k e:TypeId)(w:World):Mz P k e (w.alloc (.map #[] 0)) w.heap.size 0 [] :=
  ⟨.map [],World.ownsMap_made _ _ _ _,Go.Maps.isMap_empty,fun x _=>by simp[DataW.atKey]⟩
theorem Mz.lt(h:Mz P k e w b n S):b<w.heap.size:=by
  obtain⟨D,h,_⟩:=h
  exact h.lt
theorem Mz.kept{row:Option Nat}(h:Mz P k e w b n S)(hg:w.grownBy w' row)(hne:some b≠row):Mz P k e w' b n S:=by
  obtain⟨D,h,h1,h2⟩:=h
  exact⟨D,h.kept hg hne,h1,h2⟩
theorem Mz.ext(h:Mz P k e w b n S)(x:Ext w w'):Mz P k e w' b n S:=h.kept x.grown (by simp)
theorem Mz.look{t:TypeId}(h:Mz P k e w b n S)(hk:P.underlying k=some (.int .i64))(ht:P.underlying t=some (.map k e))(he:P.underlying e=some .bool)(hz:(zeroValue e).run P w=.ok (.bool false) w)
    {x:Int} (hx:(Lit.int .i64 x).wf=true):(Instr.lookup t (.map (some b)) (.int .i64 x) false).run P w=.ok (.bool (decide (x ∈ S))) w:=by
  obtain⟨D,h,_,h2⟩:=h
  obtain⟨v,ps,hrun,hv⟩:=h.lookup (Go.Maps.int_keyed hk) ht hz (plainElem_bool he false) (Go.Maps.keyOf_int_mk hk hx)
  rw[h2 x hx] at hv
  have hv':v=.bool (decide (x ∈ S)):=by
    unfold plainElem at hv
    rw[he] at hv
    cases v <;> simp_all
  rw[hrun,hv']
theorem Mz.put{t:TypeId}(h:Mz P k e w b n S)(hk:P.underlying k=some (.int .i64))(ht:P.underlying t=some (.map k e))(he:P.underlying e=some .bool)(hn:n<maxLen)
    {x:Int} (hx:(Lit.int .i64 x).wf=true):∃w',(Instr.mapUpdate t (.map (some b)) (.int .i64 x) (.bool true)).run P w=.ok () w'/\Mz P k e w' b (n+1) (x::S)/\w.grownBy w' (some b):=by
  obtain⟨D,h,h1,h2⟩:=h
  obtain⟨w',hrun,hown,hg⟩:=h.update (Go.Maps.int_keyed hk) ht hn (Go.Maps.keyOf_int_mk hk hx) (plainElem_bool (H:=Unit) he true)
  refine⟨w',hrun,⟨_,hown,h1.put _ _,fun y hy=>?_⟩,hg⟩
  by_cases hxy:y=x
  · subst hxy
    rw[Go.Maps.atKey_put_same h1 ((Go.Maps.int_keyed hk).key (Go.Maps.keyOf_int_mk hk hx))]
    simp
  · rw[Go.Maps.atKey_put_other (by intro hh;injection hh with _ hh;exact hxy hh),h2 y hy]
    simp[hxy]
theorem Ext.grownOwn{a:World}{row:Nat}(h:Ext a w)(hg:w.grownBy w' (some row))(hr:a.heap.size<=row):Ext a w' :=
  Below.grown h hg h.size (fun k hk=>by injection hk with hk;omega)
theorem Jt{ops:Array Oper}{rest:List Oper}{o:Oper}{a:Act}{Q:Exit->Act->World->Prop}(hg:o.guard=none)(m x v:Operand)(t:TypeId)(hop:o.op=.mapUpdate t m x v)
    (k e:TypeId) (hk:P.underlying k=some (.int .i64)) (ht:P.underlying t=some (.map k e)) (he:P.underlying e=some .bool) (b n:Nat) (S:List Int) (X:Int) (hm:a.eval m=.map (some b)) (hx:a.eval x=.int .i64 X) (hv:a.eval v=.bool true)
    (h:Mz P k e w b n S) (hn:n<maxLen) (hw:(Lit.int .i64 X).wf=true)
    (hK:∀w',Mz P k e w' b (n+1) (X::S)->w.grownBy w' (some b)->wpList P ops Q rest (a.put o.dst undef) w'):wpList P ops Q (o::rest) a w:=by
  refine wpList_plain hg fun K' hK'=>?_
  obtain⟨w',hrun,r1,r2⟩:=h.put hk ht he hn hw
  unfold Oper.wp
  simp[execOp,hop,hm,hx,hv,hrun,Result.andThen]
  exact hK' _ _ (hK w' r1 r2)
end
theorem Cv{P:Program}{f:FuncId}{args:Array Value}{w0 w:World}{v:Value}(hw:Ext w0 w)(h:Calls P f args w (Cp w v)):Calls P f args w fun e w''=>e=.returned v/\Ext w0 w'' :=
  h.mono fun _ _ ⟨he,hx⟩=>⟨he,hw.trans hx⟩
theorem Ce{P:Program}{f:FuncId}{args:Array Value}{w0 w:World}{v:Value}(hw:Ext w0 w)(h:Calls P f args w fun e w'=>e=.returned v/\w=w'):Calls P f args w fun e w''=>e=.returned v/\Ext w0 w'' :=
  h.mono fun _ _ ⟨he,hx⟩=>⟨he,hx ▸ hw⟩
def inb(x lo hi:Int):Bool:=decide (lo<=x/\x<=hi)
theorem Dz{x lo hi:Int}:inb x lo hi=true↔lo<=x/\x<=hi:=by simp[inb]
theorem dS{x lo hi:Int}(h:lo<=x)(h':x<=hi):inb x lo hi=true:=Dz.2 ⟨h,h'⟩
theorem pA{x lo hi:Int}(h:x<lo):inb x lo hi=false:=by simp[inb];omega
theorem pB{x lo hi:Int}(h:hi<x):inb x lo hi=false:=by simp[inb];omega
structure Hu where
  Id:Int
  Due:Int
structure Wd where
  Index:Int
  Time:Int
  Holder:Int
  Epoch:Int
  Until:Int
  Open:List Hu
structure Ge where
  Jobs:Wd
def Hu.ints(d:Hu):List Int:=[d.Id,d.Due]
def Nm(l:List Hu):List Int:=l.flatMap Hu.ints
def Ea(t:Int):Bool:=inb t 0 1000000
def Ga(n:Int):Bool:=n == 2||n == 3
def Te(n:Int):Bool:=inb n 1 20
def Jp(a b:Hu):Bool:=decide (a.Due<b.Due\/(a.Due=b.Due/\a.Id<b.Id))
theorem Yx{a b:Hu}(h:a.Due<b.Due):Jp a b=true:=by simp[Jp,h]
theorem Yy{a b:Hu}(h:a.Due=b.Due)(h':a.Id<b.Id):Jp a b=true:=by simp[Jp,h,h']
theorem Yz{a b:Hu}(h:¬ a.Due<b.Due)(h':a.Due≠b.Due):Jp a b=false:=by simp[Jp,h,h']
theorem Za{a b:Hu}(h:a.Due=b.Due)(h':¬ a.Id<b.Id):Jp a b=false:=by simp[Jp,h,h']
def Vf(l:List Hu)(i:Nat):Prop:=∀d,l[i]?=some d->Te d.Id=true/\Ea d.Due=true/\(∀e,0<i->l[i - 1]?=some e->Jp e d=true)/\(∀k e,k<i->l[k]?=some e->e.Id≠d.Id)
def jS(l:List Hu):Prop:=l.length<=8/\∀i,i<l.length->Vf l i
open Classical in
noncomputable def Pz(l:List Hu):Bool:=decide (jS l)
theorem Qt{l:List Hu}(h:jS l):Pz l=true:=by simp[Pz,h]
theorem Fv{l:List Hu}(h:¬ jS l):Pz l=false:=by simp[Pz,h]
noncomputable def Ir(j:Wd):Bool:=inb j.Index 0 2000&&(Ea j.Time&&((j.Holder == 0||Ga j.Holder)&&(inb j.Epoch 0 1000&&(inb j.Until 0 1001000&&Pz j.Open))))
theorem Ext.own{a w w':World}{B:Nat}{e:TypeId}{n:Nat}{v:Value}{cs:List Value}(h:Ext a w)(hown:Own B e n w v cs)(hB:a.heap.size<=B)(hg:w.grownBy w' v.ownBlock):Ext a w' :=
  Below.grown h hg h.size (fun _ hk=>Nat.le_trans hB (hown.lt hk).1)
theorem Sl.one(w:World)(cur:Array Value)(t:TypeId)(n:Nat)(hn:cur.size=n):Sl n (w.alloc (.cells cur t)) (.slice (some ⟨w.heap.size,0,none⟩) 1 1) cur.toList:=by
  refine⟨_,1,1,rfl,by simp[hn],Nat.le_refl _,by decide,fun h=>(by cases h),fun b off sp h _=>?_⟩
  injection h with h;injection h with e1 e2 e3
  subst e1;subst e2;subst e3
  refine⟨rfl,by simp,fun i u hu=>?_⟩
  rw[Nat.zero_add]
  have:=(Blk.new w t cur).cell i
  rw[this]
  simpa using hu
theorem Own.fresh(w:World)(t:TypeId)(n:Nat):Own w.heap.size t n (w.alloc (.cells #[] t)) (.slice (some ⟨w.heap.size,0,none⟩) 0 0) [] :=
  Own.of_blk (cap:=0) (Blk.new w t #[]) (Nat.le_refl _) (by simp) (by simp) (Nat.le_refl _) (by decide) (by simpa using Pre.zero _ _)
theorem Fg{P:Program}{w:World}{ops:Array Oper}{rest:List Oper}{o:Oper}{a:Act}{Q:Exit->Act->World->Prop}(hgd:o.guard=none)(s x:Operand)(t:TypeId)
    (ho:o.op=.call { callee:=.builtin .append,args:=#[s,x],argTypes:=#[t,t] })
    (e:TypeId) (i:TypeInfo) (z:Value) (size bytes:Nat) (ht:P.underlying t=some (.slice e)) (hi:P.info? e=some i) (hz:i.zero=some z)
    (hsize:i.size=size) (hby:i.bytes=bytes) (hzs:z.cells.size=size) (hsz:0<size)
    (B:Nat) (v:Value) (cs:List Value) (hs:a.eval s=v) (hown:Own B e size w v cs) (u:Value) (news:List Value) (hx:a.eval x=u) (hsl:Sl size w u news) (h1:∀u ∈ news,u.oneCell'=true)
    (n:Nat) (hlen:cs.length+news.length<=n*size) (hn:n<=maxLen) (hbytes:n*bytes<=140737488355328) (hbase:B<=w.heap.size)
    (W0:World) (hW:Ext W0 w) (hB:W0.heap.size<=B)
    (h:∀v' w',Own B e size w' v' (cs++news)->Ext W0 w'->w.grownBy w' v.ownBlock->wpList P ops Q rest (a.put o.dst v') w'):wpList P ops Q (o::rest) a w:=by
  obtain⟨len,ho'⟩:=hown
  obtain⟨ad,m,c,rfl,hl,hmc,hcm,hnil,hcell⟩:=hsl
  have hl0:cs.length=len*size:=ho'.1
  have hle:len+m<=n:=by
    have:(len+m)*size<=n*size:=by rw[Nat.add_mul];omega
    exact Nat.le_of_mul_le_mul_right this hsz
  cases ad with
  | none =>
    have hc0:=hnil rfl
    subst hc0
    have hm0:m=0:=by omega
    subst hm0
    have:news=[]:=List.eq_nil_of_length_eq_zero (by simpa using hl)
    subst this
    exact wpList_append_own_none hgd s x t ho B e i size ht hi v len cs hs ho' hx (h v w ⟨len,by simpa using ho'⟩ hW (World.grownBy.refl w _))
  | some ad =>
    refine wpList_append_own w hgd s x t ho B e i z size bytes ht hi hz hsize hby hzs hsz v len cs hs ho' ad m c news hx hl (fun j u hu=>?_) h1 (Nat.le_trans hle hn) (Nat.le_trans (Nat.mul_le_mul_right _ hle) hbytes) hbase (fun v' w' h2 h3 _=>h v' w' ⟨_,h2⟩ (hW.own ⟨len,ho'⟩ hB h3) h3)
    have hm0:0<m:=by
      rcases Nat.eq_zero_or_pos m with h0|h0
      · subst h0
        have:news=[]:=List.eq_nil_of_length_eq_zero (by simpa using hl)
        subst this;simp at hu
      · exact h0
    obtain⟨b,off,sp⟩:=ad
    obtain⟨rfl,_,h8⟩:=hcell b off sp rfl hm0
    rw[Jz]
    exact h8 j u hu
theorem Kx{P:Program}{W:World}{ops:Array Oper}{rest:List Oper}{o:Oper}{a:Act}{Q:Exit->Act->World->Prop}(hgd:o.guard=none)(s x:Operand)(t:TypeId)
    (ho:o.op=.call { callee:=.builtin .append,args:=#[s,x],argTypes:=#[t,t] })
    (e:TypeId) (i:TypeInfo) (z:Value) (size bytes:Nat) (ht:P.underlying t=some (.slice e)) (hi:P.info? e=some i) (hz:i.zero=some z)
    (hsize:i.size=size) (hby:i.bytes=bytes) (hzs:z.cells.size=size) (hsz:0<size)
    (B:Nat) (hB:W.heap.size=B) (hs:a.eval s=.slice (some ⟨B,0,none⟩) 0 0) (u:Value) (news:List Value) (hx:a.eval x=u) (hsl:Sl size W u news) (h1:∀u ∈ news,u.oneCell'=true)
    (n:Nat) (hlen:news.length<=n*size) (hn:n<=maxLen) (hbytes:n*bytes<=140737488355328)
    (h:∀v' w',Own B e size w' v' news->Ext W w'->wpList P ops Q rest (a.put o.dst v') w'):wpList P ops Q (o::rest) a (W.alloc (.cells #[] e)):=by
  subst hB
  exact Fg hgd s x t ho e i z size bytes ht hi hz hsize hby hzs hsz W.heap.size _ [] hs (Own.fresh W e size) u news hx (hsl.ext ((Ext.refl _).alloc _)) h1 n (by simpa using hlen) hn hbytes (by simp) W ((Ext.refl _).alloc _) (Nat.le_refl _) (fun v' w' h2 h3 _=>h v' w' (by simpa using h2) h3)
structure Ft where
  Key:Int
  Value:Int
def Ft.ints(d:Ft):List Int:=[d.Key,d.Value]
def Dp(l:List Ft):List Int:=l.flatMap Ft.ints
theorem Iz(l:List Ft):(Dp l).length=l.length*2:=Jo Ft.ints (fun _=>rfl) l
structure Hl where
  Id:Int
  Due:Int
  Key:Int
  Value:Int
  Fired:Int
def Hl.ints(d:Hl):List Int:=[d.Id,d.Due,d.Key,d.Value,d.Fired]
def Fj(l:List Hl):List Int:=l.flatMap Hl.ints
theorem Kl(l:List Hl):(Fj l).length=l.length*5:=Jo Hl.ints (fun _=>rfl) l
structure DOp where
  Kind:Int
  A:Int
  B:Int
  C:Int
  D:Int
def DOp.ints(d:DOp):List Int:=[d.Kind,d.A,d.B,d.C,d.D]
def Nn(o:DOp):Bool :=
  if o.Kind=1 then inb o.A 0 9&&(inb o.B 0 999&&(decide (o.C=0)&&decide (o.D=0)))
  else if o.Kind=2 then inb o.A 0 9&&(decide (o.B=0)&&(decide (o.C=0)&&decide (o.D=0)))
  else if o.Kind=3 then Te o.A&&(Ea o.B&&(inb o.C 0 9&&inb o.D 0 999))
  else if o.Kind=4 then Te o.A&&(inb o.B 0 1000&&(decide (o.C=0)&&decide (o.D=0)))
  else if o.Kind=5 then inb o.A 1 1000&&(decide (o.B=0)&&(decide (o.C=0)&&decide (o.D=0)))
  else false
structure Aq where
  Index:Int
  Time:Int
  Client:Int
  Seq:Int
  Op:DOp
def Aq.ints(d:Aq):List Int:=[d.Index,d.Time,d.Client,d.Seq,d.Op.Kind,d.Op.A,d.Op.B,d.Op.C,d.Op.D]
def Ds(l:List Aq):List Int:=l.flatMap Aq.ints
theorem Zb(l:List Aq):(Ds l).length=l.length*9:=Jo Aq.ints (fun _=>rfl) l
structure Ar where
  Client:Int
  Seq:Int
  Index:Int
def Ar.ints(d:Ar):List Int:=[d.Client,d.Seq,d.Index]
def Cz(l:List Ar):List Int:=l.flatMap Ar.ints
theorem Hv(l:List Ar):(Cz l).length=l.length*3:=Jo Ar.ints (fun _=>rfl) l
structure Is where
  Client:Int
  Seq:Int
  Index:Int
  Last:Int
def Is.ints(d:Is):List Int:=[d.Client,d.Seq,d.Index,d.Last]
def Np(l:List Is):List Int:=l.flatMap Is.ints
structure sM where
  Client:Int
  Seq:Int
  Op:DOp
def sM.ints(d:sM):List Int:=[d.Client,d.Seq,d.Op.Kind,d.Op.A,d.Op.B,d.Op.C,d.Op.D]
structure mD where
  Client:Int
  Seq:Int
  Key:Int
  Least:Int
def mD.ints(d:mD):List Int:=[d.Client,d.Seq,d.Key,d.Least]
structure dT where
  Client:Int
  Seq:Int
  Index:Int
  Has:Int
  Value:Int
def dT.ints(d:dT):List Int:=[d.Client,d.Seq,d.Index,d.Has,d.Value]
structure Da where
  Kind:Int
  Op:DOp
  Key:Int
def Da.ints(d:Da):List Int:=[d.Kind,d.Op.Kind,d.Op.A,d.Op.B,d.Op.C,d.Op.D,d.Key]
def Fw(l:List Da):List Int:=l.flatMap Da.ints
theorem Lf(l:List Da):(Fw l).length=l.length*7:=Jo Da.ints (fun _=>rfl) l
structure Jd where
  Seq:Int
  Index:Int
  Has:Int
  Value:Int
def Jd.ints(d:Jd):List Int:=[d.Seq,d.Index,d.Has,d.Value]
def Tb(l:List Jd):List Int:=l.flatMap Jd.ints
theorem Rx(l:List Jd):(Tb l).length=l.length*4:=Jo Jd.ints (fun _=>rfl) l
structure Gf where
  A:Int
  B:Int
def Gf.ints(d:Gf):List Int:=[d.A,d.B]
def dU(l:List Gf):List Int:=l.flatMap Gf.ints
structure Na where
  Holder:Int
  Epoch:Int
  Until:Int
def Na.ints(d:Na):List Int:=[d.Holder,d.Epoch,d.Until]
structure Eb where
  At:Int
  Row:List Int
structure Qs where
  From:Int
  To:Int
  Row:List Int
structure Ez where
  Kept:List (List Int)
  Wait:List Eb
structure uH where
  Base:Int
  Last:Int
  Entries:List Aq
structure Fl where
  Index:Int
  Time:Int
  Pairs:List Ft
  Jobs:List Hl
  Lease:Na
structure cM where
  Num:Int
  State:Fl
structure It where
  Disk:Ez
  State:Fl
  Num:Int
  Last:Int
  Busy:Int
structure De where
  Id:Int
  Seq:Int
  View:Ge
  Busy:Bool
  Op:DOp
  Index:Int
theorem Blk.new2(w:World)(o:Obj)(t:TypeId)(cs:Array Value):Blk ((w.alloc o).alloc (.cells cs t)) (w.heap.size+1) t cs:=by
  have:=Blk.new (w.alloc o) t cs
  rwa [World.size_alloc] at this
theorem Blk.new3(w:World)(o o':Obj)(t:TypeId)(cs:Array Value):Blk (((w.alloc o).alloc o').alloc (.cells cs t)) (w.heap.size+1+1) t cs:=by
  have:=Blk.new ((w.alloc o).alloc o') t cs
  rwa [World.size_alloc,World.size_alloc] at this
theorem Own.foot{B:Nat}{e:TypeId}{n:Nat}{w:World}{v:Value}{cs:List Value}(h:Own B e n w v cs):∀k,k ∈ Be [v]->B<=k/\k<w.heap.size:=by
  intro k hk
  cases hv:v.ownBlock with
  | none=>simp[Be,hv] at hk
  | some g=>simp[Be,hv] at hk;subst hk;exact h.lt hv
theorem Af.foot{B:Nat}{e:TypeId}{n:Nat}{w:World}{v:Value}{xs:List Int}(h:Af B e n w v xs):∀k,k ∈ Be [v]->B<=k/\k<w.heap.size:=Own.foot h
theorem Af.ext{B:Nat}{e:TypeId}{n:Nat}{w w':World}{v:Value}{xs:List Int}(h:Af B e n w v xs)(x:Ext w w'):Af B e n w' v xs:=Own.ext h x
theorem Ext.upd_below{w a b:World}{fs:List Nat}(h:Ext w a)(k:Upd a b fs)(hf:∀x,x ∈ fs->w.heap.size<=x):Ext w b:=Below.trans h (k.below hf h.size)
theorem Af.upd'{B:Nat}{e:TypeId}{n:Nat}{w w':World}{v:Value}{xs:List Int}{fs:List Nat}(h:Af B e n w v xs)(hg:Upd w w' fs)(hne:∀k,k ∈ Be [v]->k ∈ fs->False):Af B e n w' v xs :=
  Own.upd h hg (fun k hk hf=>hne k (by simp[Be,hk]) hf)
theorem bq(a b:Int):(a == b)=decide (a=b):=by by_cases h:a=b <;> simp[h]
theorem bn(a b:Int):(a != b)=!decide (a=b):=by by_cases h:a=b <;> simp[h]
theorem Af.nil(B:Nat)(e:TypeId)(n:Nat)(w:World):Af B e n w (.slice none 0 0) []:=⟨0,by simp,.inl ⟨rfl,rfl⟩⟩
theorem Oj{B:Nat}{e:TypeId}{n:Nat}{w:World}{v:Value}{l l':List Int}(h:Af B e n w v l)(q:l=l'):Af B e n w v l':=q ▸ h
theorem gC(B:Nat)(e:TypeId)(n:Nat)(w:World):Af B e n w (.slice none 0 0) (Nm []):=Af.nil B e n w
theorem cN(n:Nat)(w:World):Aj n w (.slice none 0 0) (Nm []):=Aj.nil n w
theorem Yc(n:Nat)(w:World):Aj n w (.slice none 0 0) (Dp []):=Aj.nil n w
theorem Zc(n:Nat)(w:World):Aj n w (.slice none 0 0) (Fj []):=Aj.nil n w
def gG(B:Nat)(w:World)(v:Value)(d:Hu):Prop:=v=.agg #[.int .i64 d.Id,.int .i64 d.Due]
theorem gG.mk{B:Nat}{w:World}{x0 x1:Int}:gG B w (.agg #[.int .i64 x0,.int .i64 x1]) ⟨x0,x1⟩:=rfl
theorem gG.cast{B:Nat}{w:World}{v:Value}{d d':Hu}(h:gG B w v d)(e:d=d'):gG B w v d':=e ▸ h
def Zd(B:Nat)(w:World)(v:Value)(d:Wd):Prop:=∃t5:Value,v=.agg #[.int .i64 d.Index,.int .i64 d.Time,.int .i64 d.Holder,.int .i64 d.Epoch,.int .i64 d.Until,t5]/\Af B 286 2 w t5 (Nm d.Open)
theorem Zd.mk{B:Nat}{w:World}{x0 x1 x2 x3 x4:Int}{t5:Value}{x5:List Hu}(h5:Af B 286 2 w t5 (Nm x5)):Zd B w (.agg #[.int .i64 x0,.int .i64 x1,.int .i64 x2,.int .i64 x3,.int .i64 x4,t5]) ⟨x0,x1,x2,x3,x4,x5⟩:=⟨t5,rfl,h5⟩
theorem Zd.cast{B:Nat}{w:World}{v:Value}{d d':Wd}(h:Zd B w v d)(e:d=d'):Zd B w v d':=e ▸ h
def Ze(B:Nat)(w:World)(v:Value)(d:Ge):Prop:=∃t5:Value,v=.agg #[.int .i64 d.Jobs.Index,.int .i64 d.Jobs.Time,.int .i64 d.Jobs.Holder,.int .i64 d.Jobs.Epoch,.int .i64 d.Jobs.Until,t5]/\Af B 286 2 w t5 (Nm d.Jobs.Open)
theorem Ze.mk{B:Nat}{w:World}{x0 x1 x2 x3 x4:Int}{t5:Value}{x5:List Hu}(h5:Af B 286 2 w t5 (Nm x5)):Ze B w (.agg #[.int .i64 x0,.int .i64 x1,.int .i64 x2,.int .i64 x3,.int .i64 x4,t5]) ⟨⟨x0,x1,x2,x3,x4,x5⟩⟩:=⟨t5,rfl,h5⟩
theorem Ze.cast{B:Nat}{w:World}{v:Value}{d d':Ge}(h:Ze B w v d)(e:d=d'):Ze B w v d':=e ▸ h
def Zf(B:Nat)(w:World)(v:Value)(d:Ft):Prop:=v=.agg #[.int .i64 d.Key,.int .i64 d.Value]
theorem Zf.mk{B:Nat}{w:World}{x0 x1:Int}:Zf B w (.agg #[.int .i64 x0,.int .i64 x1]) ⟨x0,x1⟩:=rfl
theorem Zf.cast{B:Nat}{w:World}{v:Value}{d d':Ft}(h:Zf B w v d)(e:d=d'):Zf B w v d':=e ▸ h
def gI(B:Nat)(w:World)(v:Value)(d:Hl):Prop:=v=.agg #[.int .i64 d.Id,.int .i64 d.Due,.int .i64 d.Key,.int .i64 d.Value,.int .i64 d.Fired]
theorem gI.mk{B:Nat}{w:World}{x0 x1 x2 x3 x4:Int}:gI B w (.agg #[.int .i64 x0,.int .i64 x1,.int .i64 x2,.int .i64 x3,.int .i64 x4]) ⟨x0,x1,x2,x3,x4⟩:=rfl
theorem gI.cast{B:Nat}{w:World}{v:Value}{d d':Hl}(h:gI B w v d)(e:d=d'):gI B w v d':=e ▸ h
def pC(B:Nat)(w:World)(v:Value)(d:DOp):Prop:=v=.agg #[.int .i64 d.Kind,.int .i64 d.A,.int .i64 d.B,.int .i64 d.C,.int .i64 d.D]
theorem pC.mk{B:Nat}{w:World}{x0 x1 x2 x3 x4:Int}:pC B w (.agg #[.int .i64 x0,.int .i64 x1,.int .i64 x2,.int .i64 x3,.int .i64 x4]) ⟨x0,x1,x2,x3,x4⟩:=rfl
theorem pC.cast{B:Nat}{w:World}{v:Value}{d d':DOp}(h:pC B w v d)(e:d=d'):pC B w v d':=e ▸ h
def We(B:Nat)(w:World)(v:Value)(d:Aq):Prop:=v=.agg #[.int .i64 d.Index,.int .i64 d.Time,.int .i64 d.Client,.int .i64 d.Seq,.int .i64 d.Op.Kind,.int .i64 d.Op.A,.int .i64 d.Op.B,.int .i64 d.Op.C,.int .i64 d.Op.D]
theorem We.mk{B:Nat}{w:World}{x0 x1 x2 x3 x4 x5 x6 x7 x8:Int}:We B w (.agg #[.int .i64 x0,.int .i64 x1,.int .i64 x2,.int .i64 x3,.int .i64 x4,.int .i64 x5,.int .i64 x6,.int .i64 x7,.int .i64 x8]) ⟨x0,x1,x2,x3,⟨x4,x5,x6,x7,x8⟩⟩:=rfl
theorem We.cast{B:Nat}{w:World}{v:Value}{d d':Aq}(h:We B w v d)(e:d=d'):We B w v d':=e ▸ h
def gJ(B:Nat)(w:World)(v:Value)(d:Is):Prop:=v=.agg #[.int .i64 d.Client,.int .i64 d.Seq,.int .i64 d.Index,.int .i64 d.Last]
theorem gJ.mk{B:Nat}{w:World}{x0 x1 x2 x3:Int}:gJ B w (.agg #[.int .i64 x0,.int .i64 x1,.int .i64 x2,.int .i64 x3]) ⟨x0,x1,x2,x3⟩:=rfl
theorem gJ.cast{B:Nat}{w:World}{v:Value}{d d':Is}(h:gJ B w v d)(e:d=d'):gJ B w v d':=e ▸ h
def gK(B:Nat)(w:World)(v:Value)(d:sM):Prop:=v=.agg #[.int .i64 d.Client,.int .i64 d.Seq,.int .i64 d.Op.Kind,.int .i64 d.Op.A,.int .i64 d.Op.B,.int .i64 d.Op.C,.int .i64 d.Op.D]
theorem gK.mk{B:Nat}{w:World}{x0 x1 x2 x3 x4 x5 x6:Int}:gK B w (.agg #[.int .i64 x0,.int .i64 x1,.int .i64 x2,.int .i64 x3,.int .i64 x4,.int .i64 x5,.int .i64 x6]) ⟨x0,x1,⟨x2,x3,x4,x5,x6⟩⟩:=rfl
theorem gK.cast{B:Nat}{w:World}{v:Value}{d d':sM}(h:gK B w v d)(e:d=d'):gK B w v d':=e ▸ h
def Zg(B:Nat)(w:World)(v:Value)(d:mD):Prop:=v=.agg #[.int .i64 d.Client,.int .i64 d.Seq,.int .i64 d.Key,.int .i64 d.Least]
theorem Zg.mk{B:Nat}{w:World}{x0 x1 x2 x3:Int}:Zg B w (.agg #[.int .i64 x0,.int .i64 x1,.int .i64 x2,.int .i64 x3]) ⟨x0,x1,x2,x3⟩:=rfl
theorem Zg.cast{B:Nat}{w:World}{v:Value}{d d':mD}(h:Zg B w v d)(e:d=d'):Zg B w v d':=e ▸ h
def Wg(B:Nat)(w:World)(v:Value)(d:dT):Prop:=v=.agg #[.int .i64 d.Client,.int .i64 d.Seq,.int .i64 d.Index,.int .i64 d.Has,.int .i64 d.Value]
theorem Wg.mk{B:Nat}{w:World}{x0 x1 x2 x3 x4:Int}:Wg B w (.agg #[.int .i64 x0,.int .i64 x1,.int .i64 x2,.int .i64 x3,.int .i64 x4]) ⟨x0,x1,x2,x3,x4⟩:=rfl
theorem Wg.cast{B:Nat}{w:World}{v:Value}{d d':dT}(h:Wg B w v d)(e:d=d'):Wg B w v d':=e ▸ h
def Wh(B:Nat)(w:World)(v:Value)(d:Na):Prop:=v=.agg #[.int .i64 d.Holder,.int .i64 d.Epoch,.int .i64 d.Until]
theorem Wh.mk{B:Nat}{w:World}{x0 x1 x2:Int}:Wh B w (.agg #[.int .i64 x0,.int .i64 x1,.int .i64 x2]) ⟨x0,x1,x2⟩:=rfl
theorem Wh.cast{B:Nat}{w:World}{v:Value}{d d':Na}(h:Wh B w v d)(e:d=d'):Wh B w v d':=e ▸ h
def Zh(B:Nat)(w:World)(v:Value)(d:uH):Prop:=∃t2:Value,v=.agg #[.int .i64 d.Base,.int .i64 d.Last,t2]/\Af B 281 9 w t2 (Ds d.Entries)
theorem Zh.mk{B:Nat}{w:World}{x0 x1:Int}{t2:Value}{x2:List Aq}(h2:Af B 281 9 w t2 (Ds x2)):Zh B w (.agg #[.int .i64 x0,.int .i64 x1,t2]) ⟨x0,x1,x2⟩:=⟨t2,rfl,h2⟩
theorem Zh.cast{B:Nat}{w:World}{v:Value}{d d':uH}(h:Zh B w v d)(e:d=d'):Zh B w v d':=e ▸ h
def Gx(B:Nat)(w:World)(v:Value)(d:Fl):Prop:=∃t2:Value,∃t3:Value,v=.agg #[.int .i64 d.Index,.int .i64 d.Time,t2,t3,.int .i64 d.Lease.Holder,.int .i64 d.Lease.Epoch,.int .i64 d.Lease.Until]/\Af B 362 2 w t2 (Dp d.Pairs)/\Af B 366 5 w t3 (Fj d.Jobs)
theorem Gx.mk{B:Nat}{w:World}{x0 x1 x4 x5 x6:Int}{t2:Value}{x2:List Ft}(h2:Af B 362 2 w t2 (Dp x2)){t3:Value}{x3:List Hl}(h3:Af B 366 5 w t3 (Fj x3)):Gx B w (.agg #[.int .i64 x0,.int .i64 x1,t2,t3,.int .i64 x4,.int .i64 x5,.int .i64 x6]) ⟨x0,x1,x2,x3,⟨x4,x5,x6⟩⟩:=⟨t2,t3,rfl,h2,h3⟩
theorem Gx.cast{B:Nat}{w:World}{v:Value}{d d':Fl}(h:Gx B w v d)(e:d=d'):Gx B w v d':=e ▸ h
def Km(B:Nat)(w:World)(v:Value)(d:cM):Prop:=∃t3:Value,∃t4:Value,v=.agg #[.int .i64 d.Num,.int .i64 d.State.Index,.int .i64 d.State.Time,t3,t4,.int .i64 d.State.Lease.Holder,.int .i64 d.State.Lease.Epoch,.int .i64 d.State.Lease.Until]/\Af B 362 2 w t3 (Dp d.State.Pairs)/\Af B 366 5 w t4 (Fj d.State.Jobs)
theorem Km.mk{B:Nat}{w:World}{x0 x1 x2 x5 x6 x7:Int}{t3:Value}{x3:List Ft}(h3:Af B 362 2 w t3 (Dp x3)){t4:Value}{x4:List Hl}(h4:Af B 366 5 w t4 (Fj x4)):Km B w (.agg #[.int .i64 x0,.int .i64 x1,.int .i64 x2,t3,t4,.int .i64 x5,.int .i64 x6,.int .i64 x7]) ⟨x0,⟨x1,x2,x3,x4,⟨x5,x6,x7⟩⟩⟩:=⟨t3,t4,rfl,h3,h4⟩
theorem Km.cast{B:Nat}{w:World}{v:Value}{d d':cM}(h:Km B w v d)(e:d=d'):Km B w v d':=e ▸ h
def Nb(B:Nat)(w:World)(v:Value)(d:De):Prop:=∃t7:Value,v=.agg #[.int .i64 d.Id,.int .i64 d.Seq,.int .i64 d.View.Jobs.Index,.int .i64 d.View.Jobs.Time,.int .i64 d.View.Jobs.Holder,.int .i64 d.View.Jobs.Epoch,.int .i64 d.View.Jobs.Until,t7,.bool d.Busy,.int .i64 d.Op.Kind,.int .i64 d.Op.A,.int .i64 d.Op.B,.int .i64 d.Op.C,.int .i64 d.Op.D,.int .i64 d.Index]/\Af B 286 2 w t7 (Nm d.View.Jobs.Open)
theorem Nb.mk{B:Nat}{w:World}{x0 x1 x2 x3 x4 x5 x6 x9 x10 x11 x12 x13 x14:Int}{x8:Bool}{t7:Value}{x7:List Hu}(h7:Af B 286 2 w t7 (Nm x7)):Nb B w (.agg #[.int .i64 x0,.int .i64 x1,.int .i64 x2,.int .i64 x3,.int .i64 x4,.int .i64 x5,.int .i64 x6,t7,.bool x8,.int .i64 x9,.int .i64 x10,.int .i64 x11,.int .i64 x12,.int .i64 x13,.int .i64 x14]) ⟨x0,x1,⟨⟨x2,x3,x4,x5,x6,x7⟩⟩,x8,⟨x9,x10,x11,x12,x13⟩,x14⟩:=⟨t7,rfl,h7⟩
theorem Nb.cast{B:Nat}{w:World}{v:Value}{d d':De}(h:Nb B w v d)(e:d=d'):Nb B w v d':=e ▸ h
section
variable {w:World} {g b:Nat} {t:TypeId} {cs cells:Array Value}
theorem Blk.row(h:Blk w g t cs)(cells:Array Value):Blk (w.setRow g cells) g t cells:=setRow_heap w g cs cells t _ h
theorem Gj(w:World)(cells:Array Value)(h:b≠g):(w.setRow g cells).heap[b]?=w.heap[b]?:=by
  unfold World.setRow
  rw[Array.getElem?_modify,if_neg (fun e=>h e.symm)]
theorem Blk.rowFar(h:Blk w b t cs)(hn:b≠g)(cells:Array Value):Blk (w.setRow g cells) b t cs:=(Gj w cells hn).trans h
theorem Hh(w:World)(g:Nat)(cells:Array Value):(w.setRow g cells).heap.size=w.heap.size:=by simp[World.setRow]
theorem Zi(w:World)(g b o:Nat)(cells:Array Value)(h:b<g):(w.setRow g cells).cell? ⟨b,o,none⟩=w.cell? ⟨b,o,none⟩:=World.cell?_of_block (w:=w) (Gj w cells (show b≠g by omega))
theorem Zj(w:World)(g b o:Nat)(cells:Array Value)(h:g<b):(w.setRow g cells).cell? ⟨b,o,none⟩=w.cell? ⟨b,o,none⟩:=World.cell?_of_block (w:=w) (Gj w cells (show b≠g by omega))
theorem Wy(w:World)(g b o:Nat)(cells:Array Value)(h:b<g):(w.setRow g cells).frozen? ⟨b,o,none⟩=w.frozen? ⟨b,o,none⟩:=World.frozen?_of_block (w:=w) (Gj w cells (show b≠g by omega))
theorem Wz(w:World)(g b o:Nat)(cells:Array Value)(h:g<b):(w.setRow g cells).frozen? ⟨b,o,none⟩=w.frozen? ⟨b,o,none⟩:=World.frozen?_of_block (w:=w) (Gj w cells (show b≠g by omega))
theorem Dj(w:World):w.drew.heap.size=w.heap.size:=rfl
theorem Blk.cast{cs':Array Value}(h:Blk w g t cs)(e:cs=cs'):Blk w g t cs':=e ▸ h
theorem Ext.setRow{a w:World}(h:Ext a w)(hg:a.heap.size<=g)(cells:Array Value):Ext a (w.setRow g cells):=below_setRow h hg cells
theorem Chg.setRow{B:Nat}{a w:World}(h:Chg B a w)(hg:g<B\/a.heap.size<=g)(cells:Array Value):Chg B a (w.setRow g cells) :=
  ⟨by rw[Hh];exact h.size,fun i hB hi=>(Gj w cells (by omega)).trans (h.block i hB hi)⟩
theorem Fq{P:Program}{ops:Array Oper}{rest:List Oper}{o:Oper}{a:Act}{Q:Exit->Act->World->Prop}(hgd:o.guard=none)(ty:TypeId)(x y:Operand)(ho:o.op=.store ty x y)
    (hx:a.eval x=.pointer (some ⟨g,0,none⟩)) (hy:a.eval y=.agg cells) (old:Array Value) (hB:Blk w g t old) (hi:(P.info? ty).map (·.size)=some cells.size) (hold:old.size=cells.size)
    (h1:cells.all (·.oneCell')=true) (h:Blk (w.setRow g cells) g t cells->wpList P ops Q rest (a.put o.dst undef) (w.setRow g cells)):wpList P ops Q (o::rest) a w :=
  wpList_plain hgd fun _ hK=>wp_store_row ty x y ho g cells hx hy t old hB hi hold h1 (hK _ _ (h (hB.row cells)))
end
theorem Blk.newD(w:World)(t:TypeId)(cs:Array Value):Blk (w.drew.alloc (.cells cs t)) w.heap.size t cs:=Blk.new w.drew t cs
theorem Aa{w w':World}(h:Ext w w':=by((repeat' (first|(with_reducible exact Ext.refl _)|(with_reducible assumption)|(with_reducible refine Ext.drewN ?_ _)|(with_reducible refine Ext.drew ?_)|(with_reducible refine Ext.alloc ?_ _)|(with_reducible refine Ext.setCell ?_ ?_ _)|(with_reducible refine Ext.setRow ?_ ?_ _)|(with_reducible exact Nat.le_refl _)|(with_reducible refine Ext.trans ?_ (by assumption))|omega));first|done|fail)):Ext w w':=h
theorem Bv{w:World}{g:Nat}{t:TypeId}{cs:Array Value}(h:Blk w g t cs:=by((repeat' (first|(with_reducible assumption)|(with_reducible exact Blk.new _ _ _)|(with_reducible exact Blk.newD _ _ _)|(with_reducible exact Blk.new2 _ _ _ _)|(with_reducible exact Blk.new3 _ _ _ _ _)|(with_reducible apply Blk.drew)|(with_reducible apply Blk.drewN)|(with_reducible apply Blk.alloc)|(with_reducible apply Blk.set_)|(with_reducible apply Blk.row)|(with_reducible apply Blk.far)|(with_reducible apply Blk.rowFar)|omega|(simp;done)|(simp;omega)));first|done|fail)):Blk w g t cs:=h
theorem mE{α:Type}{a b:α}(h:a=b:=by first|(with_reducible rfl)|(simp only[List.setIfInBounds_toArray,List.set_cons_zero,List.set_cons_succ];done)|rfl|simp):a=b:=h
abbrev Gn:=List Int × List Int
def Ly(p:Gn × Value):List Value:=p.1.1.map (.int .i64)++[p.2]
def Je(rows:List Gn)(ss:List Value):List Value:=(rows.zip ss).flatMap Ly
def Wid(n:Nat)(rows:List Gn):Prop:=∀r ∈ rows,r.1.length=n
theorem Xb{α:Type}(f:α->List Value){n:Nat}:∀(l:List α) (_:∀x ∈ l,(f x).length=n) (k j:Nat) (d:α),l[k]?=some d->j<n->(l.flatMap f)[k*n+j]?=(f d)[j]?
  | [],_,k,j,d,h,_=>by simp at h
  | x::l,hf,0,j,d,h,hj=>by
    simp at h;subst h
    rw[List.flatMap_cons,Nat.zero_mul,Nat.zero_add,List.getElem?_append_left (by rw[hf x (by simp)];exact hj)]
  | x::l,hf,k+1,j,d,h,hj=>by
    rw[List.flatMap_cons,List.getElem?_append_right (by rw[hf x (by simp),Nat.add_mul,Nat.one_mul];omega),hf x (by simp)]
    rw[show(k+1)*n+j - n=k*n+j by rw[Nat.add_mul,Nat.one_mul];omega]
    exact Xb f l (fun y hy=>hf y (by simp[hy])) k j d (by simpa using h) hj
theorem nB{α:Type}(f:α->List Value){n:Nat}(l:List α)(hf:∀x ∈ l,(f x).length=n):(l.flatMap f).length=l.length*n:=by
  induction l with
  | nil=>simp
  | cons x l ih=>rw[List.flatMap_cons,List.length_append,ih (fun y hy=>hf y (by simp[hy])),hf x (by simp),List.length_cons,Nat.add_mul,Nat.one_mul];omega
theorem Xc{n:Nat}{rows:List Gn}{ss:List Value}(hw:Wid n rows):∀x ∈ rows.zip ss,(Ly x).length=n+1:=by
  intro x hx
  have:=hw x.1 (List.of_mem_zip hx).1
  simp[Ly,this]
theorem Qa{n:Nat}{rows:List Gn}{ss:List Value}(hw:Wid n rows)(hl:ss.length=rows.length):(Je rows ss).length=rows.length*(n+1):=by
  unfold Je
  rw[nB Ly _ (Xc hw),List.length_zip,hl,Nat.min_self]
theorem mF{rows:List Gn}{ss:List Value}{i:Nat}{r:Gn}{s:Value}(hr:rows[i]?=some r)(hs:ss[i]?=some s):(rows.zip ss)[i]?=some (r,s):=by
  rw[List.getElem?_zip_eq_some];exact⟨hr,hs⟩
theorem Zk{n:Nat}{rows:List Gn}{ss:List Value}(hw:Wid n rows){i j:Nat}{r:Gn}{s:Value}{u:Int}(hr:rows[i]?=some r)(hs:ss[i]?=some s)(hu:r.1[j]?=some u):(Je rows ss)[i*(n+1)+j]?=some (.int .i64 u):=by
  have hrl:=hw r (List.mem_of_getElem? hr)
  have hj:j<n:=by
    rw[<-hrl]
    rcases Nat.lt_or_ge j r.1.length with h|h
    · exact h
    · rw[List.getElem?_eq_none h] at hu;cases hu
  unfold Je
  rw[Xb Ly _ (Xc hw) i j (r,s) (mF hr hs) (by omega)]
  simp only[Ly]
  rw[List.getElem?_append_left (by simp;omega),List.getElem?_map,hu];rfl
theorem cO{n:Nat}{rows:List Gn}{ss:List Value}(hw:Wid n rows){i:Nat}{r:Gn}{s:Value}(hr:rows[i]?=some r)(hs:ss[i]?=some s):(Je rows ss)[i*(n+1)+n]?=some s:=by
  have hrl:=hw r (List.mem_of_getElem? hr)
  unfold Je
  rw[Xb Ly _ (Xc hw) i n (r,s) (mF hr hs) (by omega)]
  simp only[Ly]
  rw[List.getElem?_append_right (by simp;omega)]
  simp[hrl]
theorem gP{rows:List Gn}{ss:List Value}(hl:ss.length=rows.length)(r:Gn)(s:Value):Je (rows++[r]) (ss++[s])=Je rows ss++Ly (r,s):=by
  unfold Je
  rw[List.zip_append hl.symm]
  simp
def Ck(n:Nat)(w:World)(v:Value)(rows:List Gn):Prop :=
  Wid n rows/\∃ss:List Value,ss.length=rows.length/\Sl (n+1) w v (Je rows ss)/\∀(i:Nat) (s:Value) (r:Gn),ss[i]?=some s->rows[i]?=some r->Aj 1 w s r.2
theorem Ck.ext{n:Nat}{w w':World}{v:Value}{rows:List Gn}(h:Ck n w v rows)(e:Ext w w'):Ck n w' v rows:=by
  obtain⟨hw,ss,hl,hs,hi⟩:=h
  exact⟨hw,ss,hl,hs.ext e,fun i s r h1 h2=>(hi i s r h1 h2).ext e⟩
theorem Ck.nil(n:Nat)(w:World):Ck n w (.slice none 0 0) []:=⟨fun r h=>by simp at h,[],rfl,Sl.nil _ w,fun i s r h=>by simp at h⟩
theorem Ck.shape{n:Nat}{w:World}{v:Value}{rows:List Gn}(h:Ck n w v rows):∃a len cap,v=.slice a len cap:=by
  obtain⟨_,ss,_,hs,_⟩:=h
  exact hs.shape
theorem Ck.open_{n:Nat}{w:World}{v:Value}{rows:List Gn}(h:Ck n w v rows):∃a cap,v=.slice a rows.length cap/\rows.length<=cap/\cap<=maxLen /\
      ∀i,i<rows.length->∃r b off s,rows[i]?=some r/\a=some ⟨b,off,none⟩/\b<w.heap.size/\(∀j u,r.1[j]?=some u->w.cell? ⟨b,off+i*(n+1)+j,none⟩=some (.int .i64 u)) /\
        w.cell? ⟨b,off+i*(n+1)+n,none⟩=some s/\Aj 1 w s r.2:=by
  obtain⟨hw,ss,hl,hs,hi⟩:=h
  obtain⟨a,len,cap,rfl,hl2,h1,h2,h3⟩:=hs.open_
  rw[Qa hw hl] at hl2
  have hl3:rows.length=len:=Nat.eq_of_mul_eq_mul_right (by omega) hl2
  subst hl3
  refine⟨a,cap,rfl,h1,h2,fun i hlt=>?_⟩
  obtain⟨b,off,ha,hb,hc⟩:=h3 i hlt
  have hr:rows[i]?=some rows[i]:=List.getElem?_eq_getElem hlt
  have hss:ss[i]?=some (ss[i]'(by omega)):=List.getElem?_eq_getElem (by omega)
  exact⟨_,b,off,_,hr,ha,hb,fun j u hu=>hc j _ (Zk hw hr hss hu),hc n _ (cO hw hr hss),hi i _ _ hss hr⟩
structure Qu (B:Nat) (e1:TypeId) (w:World) (v:Value) (rows:List Gn) (ss:List Value):Prop where
  own:∀(i:Nat) (s:Value) (r:Gn),ss[i]?=some s->rows[i]?=some r->Af B e1 1 w s r.2
  two:∀(i j:Nat) (s t:Value) (k:Nat),i<j->ss[i]?=some s->ss[j]?=some t->k ∈ Be [s]->k ∈ Be [t]->False
  out:∀(i:Nat) (s:Value) (k:Nat),ss[i]?=some s->k ∈ Be [s]->k ∈ Be [v]->False
def Bi(B:Nat)(e e1:TypeId)(n:Nat)(w:World)(v:Value)(rows:List Gn)(ss:List Value):Prop :=
  Wid n rows/\ss.length=rows.length/\Own B e (n+1) w v (Je rows ss)/\Qu B e1 w v rows ss
def Hw(B:Nat)(e e1:TypeId)(n:Nat)(w:World)(v:Value)(rows:List Gn):Prop:=∃ss,Bi B e e1 n w v rows ss
section
variable {B B':Nat} {e e1:TypeId} {n:Nat} {w w':World} {v:Value} {rows:List Gn} {ss:List Value}
theorem Qu.ext(h:Qu B e1 w v rows ss)(x:Ext w w'):Qu B e1 w' v rows ss:=⟨fun i s r h1 h2=>(h.own i s r h1 h2).ext x,h.two,h.out⟩
theorem Qu.keep(h:Qu B e1 w v rows ss)(x:Chg B w w'):Qu B e1 w' v rows ss:=⟨fun i s r h1 h2=>(h.own i s r h1 h2).keep x,h.two,h.out⟩
theorem Qu.mono(h:Qu B e1 w v rows ss)(x:B'<=B):Qu B' e1 w v rows ss:=⟨fun i s r h1 h2=>(h.own i s r h1 h2).mono x,h.two,h.out⟩
theorem Bi.ext(h:Bi B e e1 n w v rows ss)(x:Ext w w'):Bi B e e1 n w' v rows ss:=⟨h.1,h.2.1,Own.ext h.2.2.1 x,h.2.2.2.ext x⟩
theorem Bi.keep(h:Bi B e e1 n w v rows ss)(x:Chg B w w'):Bi B e e1 n w' v rows ss:=⟨h.1,h.2.1,Own.keep h.2.2.1 x,h.2.2.2.keep x⟩
theorem Bi.mono(h:Bi B e e1 n w v rows ss)(x:B'<=B):Bi B' e e1 n w v rows ss:=⟨h.1,h.2.1,Own.mono h.2.2.1 x,h.2.2.2.mono x⟩
theorem Bi.nest(h:Bi B e e1 n w v rows ss):Ck n w v rows:=⟨h.1,ss,h.2.1,Own.sl h.2.2.1,fun i s r h1 h2=>(h.2.2.2.own i s r h1 h2).ints⟩
theorem Hw.ext(h:Hw B e e1 n w v rows)(x:Ext w w'):Hw B e e1 n w' v rows:=let ⟨ss,h⟩:=h;⟨ss,h.ext x⟩
theorem Hw.keep(h:Hw B e e1 n w v rows)(x:Chg B w w'):Hw B e e1 n w' v rows:=let ⟨ss,h⟩:=h;⟨ss,h.keep x⟩
theorem Hw.mono(h:Hw B e e1 n w v rows)(x:B'<=B):Hw B' e e1 n w v rows:=let ⟨ss,h⟩:=h;⟨ss,h.mono x⟩
theorem Hw.nest(h:Hw B e e1 n w v rows):Ck n w v rows:=let ⟨_,h⟩:=h;h.nest
theorem Hw.shape(h:Hw B e e1 n w v rows):∃a len cap,v=.slice a len cap:=h.nest.shape
theorem Hw.nil(B:Nat)(e e1:TypeId)(n:Nat)(w:World):Hw B e e1 n w (.slice none 0 0) [] :=
  ⟨[],fun r h=>by simp at h,rfl,⟨0,by simp[Je],.inl ⟨rfl,rfl⟩⟩,⟨fun i s r h=>by simp at h,fun i j s t k _ h=>by simp at h,fun i s k h=>by simp at h⟩⟩
end
theorem Qu.snoc{B:Nat}{e1:TypeId}{w:World}{v:Value}{rows:List Gn}{ss:List Value}{r:Gn}{t:Value}(h:Qu B e1 w v rows ss)(hl:ss.length=rows.length)(ht:Af B e1 1 w t r.2)
    (hd:∀(i:Nat) (s:Value) (k:Nat),ss[i]?=some s->k ∈ Be [s]->k ∈ Be [t]->False) (ho:∀k,k ∈ Be [t]->k ∈ Be [v]->False):Qu B e1 w v (rows++[r]) (ss++[t]):=by
  have key:∀(i:Nat) (s:Value),(ss++[t])[i]?=some s->(i<ss.length/\ss[i]?=some s)\/(i=ss.length/\s=t):=by
    intro i s hi
    rcases Nat.lt_or_ge i ss.length with h'|h'
    · rw[List.getElem?_append_left h'] at hi;exact .inl ⟨h',hi⟩
    · rw[List.getElem?_append_right h'] at hi
      rcases Nat.lt_or_ge (i - ss.length) 1 with h2|h2
      · have:i - ss.length=0:=by omega
        rw[this] at hi;simp at hi;exact .inr ⟨by omega,hi.symm⟩
      · rw[List.getElem?_eq_none (by simpa using h2)] at hi;cases hi
  refine⟨fun i s q h1 h2=>?_,fun i j s u k hij h1 h2=>?_,fun i s k h1=>?_⟩
  · rcases key i s h1 with⟨hi,h3⟩|⟨hi,rfl⟩
    · rw[List.getElem?_append_left (by omega)] at h2;exact h.own i s q h3 h2
    · rw[List.getElem?_append_right (by omega),hi,hl,Nat.sub_self] at h2;simp at h2;subst h2;exact ht
  · rcases key i s h1 with⟨hi,h3⟩|⟨hi,rfl⟩
    · rcases key j u h2 with⟨hj,h4⟩|⟨hj,rfl⟩
      · exact h.two i j s u k hij h3 h4
      · exact hd i s k h3
    · rcases key j u h2 with⟨hj,h4⟩|⟨hj,rfl⟩
      · omega
      · omega
  · rcases key i s h1 with⟨hi,h3⟩|⟨hi,rfl⟩
    · exact h.out i s k h3
    · exact ho k
theorem Pre.app{cur:Array Value}{m:Nat}{cs ds:List Value}(h:Pre cur m cs)(hm:m<=cs.length):Pre cur m (cs++ds):=by
  intro j hj
  rw[List.getElem?_append_left (by omega)]
  exact h j hj
theorem Ic{α:Type}{l:List α}{k:Nat}{r:α}(h:l[k]?=some r):l.take (k+1)=l.take k++[r]:=by rw[List.take_add_one,h];rfl
def Zl(n:Nat)(q:Int):List Gn->List Gn
  | []=>[]
  | r::rows=>(run q n,run (q+n) r.2.length)::Zl n (q+n+r.2.length) rows
def tot(n:Nat)(rows:List Gn):Nat:=(rows.map (fun r=>n+r.2.length)).sum
def Ky(rows:List Gn):Nat:=rows.length+(rows.map (fun r=>r.2.length)).sum
theorem sN{n:Nat}{rows:List Gn}(hw:Wid n rows)(k:Nat)(r:Gn)(hr:r.1.length=n):Wid n (rows.set k r):=by
  intro x hx
  rcases List.mem_or_eq_of_mem_set hx with h|rfl
  · exact hw x h
  · exact hr
section
variable {B:Nat} {e e1:TypeId} {n:Nat} {w w':World} {v:Value} {rows:List Gn} {ss:List Value}
theorem Bi.upd(h:Bi B e e1 n w v rows ss){fs:List Nat}(hU:Upd w w' fs)(hd:∀k,k ∈ Be (v::ss)->k ∈ fs->False):Bi B e e1 n w' v rows ss:=by
  obtain⟨hw,hl,hown,hin⟩:=h
  refine⟨hw,hl,Own.upd hown hU (fun g hg hf=>hd g (by simp[Be,hg]) hf),⟨fun i t q h1 h2=>Af.upd' (hin.own i t q h1 h2) hU (fun g h3 h4=>hd g ?_ h4),hin.two,hin.out⟩⟩
  simp only[Be,List.mem_filterMap] at h3 ⊢
  obtain⟨t',ht,h5⟩:=h3
  simp at ht;subst ht
  exact⟨t',List.mem_cons_of_mem _ (List.mem_of_getElem? h1),h5⟩
theorem Bi.foot(h:Bi B e e1 n w v rows ss):∀k,k ∈ Be (v::ss)->B<=k/\k<w.heap.size:=by
  intro k hk
  obtain⟨hw,hl,hown,hin⟩:=h
  simp only[Be,List.mem_filterMap] at hk
  obtain⟨t,ht,h5⟩:=hk
  rcases List.mem_cons.1 ht with rfl|ht
  · exact hown.lt h5
  · obtain⟨i,hi⟩:=List.mem_iff_getElem?.1 ht
    have hlt:i<rows.length:=by
      have:=(List.getElem?_eq_some_iff.1 hi).1
      omega
    exact Own.lt (hin.own i t rows[i] hi (List.getElem?_eq_getElem hlt)) h5
end
theorem Qb{v s:Value}{ss:List Value}{k i:Nat}(hs:ss[i]?=some s)(h:k ∈ Be [s]):k ∈ Be (v::ss):=by
  simp only[Be,List.mem_filterMap] at h ⊢
  obtain⟨t',ht,h5⟩:=h
  simp at ht;subst ht
  exact⟨t',List.mem_cons_of_mem _ (List.mem_of_getElem? hs),h5⟩
theorem Pre.setBoth{cur:Array Value}{m i:Nat}{cs:List Value}{u:Value}(h:Pre cur m cs)(hm:m<=cs.length)(hc:m<=cur.size):Pre (cur.setIfInBounds i u) m (cs.set i u):=by
  intro j hj
  by_cases e:j=i
  · subst e
    rw[List.getElem?_set_self (by omega)]
    have hjc:j<cur.size:=by omega
    simp[hjc]
  · rw[Array.getElem?_setIfInBounds_ne (fun h=>e h.symm),List.getElem?_set_ne (fun h=>e h.symm)];exact h j hj
theorem Blk.upv{w w1 w2:World}{k g:Nat}{t:TypeId}{cs:Array Value}(h:Blk w k t cs)(x:Upd w1 w2 [g])(hk:k≠g:=by omega)(h1:Blk w1 k t cs:=by exact Bv):Blk w2 k t cs:=h1.upd x (fun hm=>hk (List.mem_singleton.1 hm))
theorem Blk.exv{w w1 w2:World}{k:Nat}{t:TypeId}{cs:Array Value}(h:Blk w k t cs)(x:Ext w1 w2)(h1:Blk w1 k t cs:=by exact Bv):Blk w2 k t cs:=h1.ext x
theorem Blk.cfl{w:World}{k:Nat}{t:TypeId}{cs:Array Value}(h:Blk w k t cs):(∀i,w.cell? ⟨k,i,none⟩=cs[i]?)/\(∀i,w.frozen? ⟨k,i,none⟩=false)/\k<w.heap.size:=⟨h.cell,h.frozen,h.lt⟩
theorem szA:(∀(w:World) (o:Obj),(w.alloc o).heap.size=w.heap.size+1)/\(∀(w:World) (p:Addr) (u:Value),(w.setCell p u).heap.size=w.heap.size)/\(∀(w:World) (g:Nat) (cs:Array Value),(w.setRow g cs).heap.size=w.heap.size)/\(∀w:World,w.drew.heap.size=w.heap.size) :=
  ⟨fun _ _=>by simp only[World.size_alloc],fun _ _ _=>by simp only[World.size_setCell],fun _ _ _=>by simp only[Hh],fun _=>by simp only[Dj]⟩
theorem Ab{α:Type}:(∀(l:List α) (i:Nat) (h:i<l.toArray.size),l.toArray[i]'h=l[i]'(by simpa using h))/\(∀(a:α) (l:List α) (h:0<(a::l).length),(a::l)[0]'h=a)/\(∀(a:α) (l:List α) (i:Nat) (h:i+1<(a::l).length),(a::l)[i+1]'h=l[i]'(by simpa using h))/\(∀(l:List α) (i:Nat) (x:α),l.toArray.setIfInBounds i x=(l.set i x).toArray)/\(∀(a:α) (l:List α) (x:α),(a::l).set 0 x=x::l)/\(∀(a:α) (l:List α) (i:Nat) (x:α),(a::l).set (i+1) x=a::l.set i x) :=
  ⟨fun _ _ _=>by simp only[List.getElem_toArray],fun _ _ _=>rfl,fun _ _ _ _=>rfl,fun _ _ _=>by simp only[List.setIfInBounds_toArray],fun _ _ _=>rfl,fun _ _ _ _=>rfl⟩
section
variable {P:Program} {ops:Array Oper} {Q:Exit->Act->World->Prop} {md:Region.Mode} {S:World->Prop}
theorem wt(i:Nat){oi:Oper}{v:Value}{fuel:Nat}{listed:Array Bool}{a:Act}{w:World}(h:wpAnyH P md ops Q S fuel (listed.setIfInBounds i true) (a.put oi.dst v) w)(hi:ops[i]?=some oi:=by exact rfl)(hs:Region.noSelect ops=true:=by kernel_rfl)(hf:Region.free md ops listed i=true:=by kernel_rfl)(hr:(Region.ready md ops listed).contains i=true:=by kernel_rfl)(hQ:∀c a w,Q (.panic c) (a.put oi.dst v) w->Q (.panic c) a w:=by exact fun _ _ _ h=>h)(hS:S w:=by assumption)(hy:Region.wanted oi (yielded ops a.tmps)=true/\∀w,S w->(execOp a.eval oi).run P w=.ok (.value v) w:=by exact⟨by rfl,by intro w hSw;(try dsimp only at hSw);go_simp <;> with_reducible rfl⟩):wpAnyH P md ops Q S (fuel+1) listed a w:=wpAnyH_take hi hs hf hr hQ (Or.inl hy) hS h
theorem wtq(i:Nat){F:World->Prop}(f:∀w,S w->F w){oi:Oper}{v:Value}{fuel:Nat}{listed:Array Bool}{a:Act}{w:World}(h:wpAnyH P md ops Q S fuel (listed.setIfInBounds i true) (a.put oi.dst v) w)(hi:ops[i]?=some oi:=by exact rfl)(hs:Region.noSelect ops=true:=by kernel_rfl)(hf:Region.free md ops listed i=true:=by kernel_rfl)(hr:(Region.ready md ops listed).contains i=true:=by kernel_rfl)(hQ:∀c a w,Q (.panic c) (a.put oi.dst v) w->Q (.panic c) a w:=by exact fun _ _ _ h=>h)(hS:S w:=by assumption)(hy:Region.wanted oi (yielded ops a.tmps)=true/\∀w,S w->F w->(execOp a.eval oi).run P w=.ok (.value v) w:=by exact⟨by rfl,by intro w hSw hq;(try dsimp only at hSw);go_simp <;> with_reducible rfl⟩):wpAnyH P md ops Q S (fuel+1) listed a w:=wpAnyH_take hi hs hf hr hQ (Or.inl ⟨hy.1,fun w x=>hy.2 w x (f w x)⟩) hS h
theorem wtr(i:Nat){F G:World->Prop}(f:∀w,S w->F w)(f2:∀w,S w->G w){oi:Oper}{v:Value}{fuel:Nat}{listed:Array Bool}{a:Act}{w:World}(h:wpAnyH P md ops Q S fuel (listed.setIfInBounds i true) (a.put oi.dst v) w)(hi:ops[i]?=some oi:=by exact rfl)(hs:Region.noSelect ops=true:=by kernel_rfl)(hf:Region.free md ops listed i=true:=by kernel_rfl)(hr:(Region.ready md ops listed).contains i=true:=by kernel_rfl)(hQ:∀c a w,Q (.panic c) (a.put oi.dst v) w->Q (.panic c) a w:=by exact fun _ _ _ h=>h)(hS:S w:=by assumption)(hy:Region.wanted oi (yielded ops a.tmps)=true/\∀w,S w->F w->G w->(execOp a.eval oi).run P w=.ok (.value v) w:=by exact⟨by rfl,by intro w hSw hq hq2;(try dsimp only at hSw);go_simp <;> with_reducible rfl⟩):wpAnyH P md ops Q S (fuel+1) listed a w:=wpAnyH_take hi hs hf hr hQ (Or.inl ⟨hy.1,fun w x=>hy.2 w x (f w x) (f2 w x)⟩) hS h
theorem wr1{fuel:Nat}{listed:Array Bool}{a:Act}{w:World}(i:Nat){oi:Oper}(hi:∀K':Act->World->Prop,Shut (∀a w,S w->(S w->wpAnyH P md ops Q S fuel (listed.setIfInBounds i true) a w)->K' a w)->if Region.wanted oi (yielded ops a.tmps)=true then Oper.wp P oi a w K' Q else K' (a.put oi.dst undef) w)(hr:Region.ready md ops listed=[i]:=by kernel_rfl)(gi:ops[i]?=some oi:=by exact rfl):wpAnyH P md ops Q S (fuel+1) listed a w:=wpAnyH_ready hr (by simp) (AllReadyH.cons gi hi AllReadyH.nil)
theorem wr2{fuel:Nat}{listed:Array Bool}{a:Act}{w:World}(i j:Nat){oi oj:Oper}(hi:∀K':Act->World->Prop,Shut (∀a w,S w->(S w->wpAnyH P md ops Q S fuel (listed.setIfInBounds i true) a w)->K' a w)->if Region.wanted oi (yielded ops a.tmps)=true then Oper.wp P oi a w K' Q else K' (a.put oi.dst undef) w)(hj:∀K':Act->World->Prop,Shut (∀a w,S w->(S w->wpAnyH P md ops Q S fuel (listed.setIfInBounds j true) a w)->K' a w)->if Region.wanted oj (yielded ops a.tmps)=true then Oper.wp P oj a w K' Q else K' (a.put oj.dst undef) w)(hr:Region.ready md ops listed=[i,j]:=by kernel_rfl)(gi:ops[i]?=some oi:=by exact rfl)(gj:ops[j]?=some oj:=by exact rfl):wpAnyH P md ops Q S (fuel+1) listed a w:=wpAnyH_ready hr (by simp) (AllReadyH.cons gi hi (AllReadyH.cons gj hj AllReadyH.nil))
theorem wr3{fuel:Nat}{listed:Array Bool}{a:Act}{w:World}(i j k:Nat){oi oj ok:Oper}(hi:∀K':Act->World->Prop,Shut (∀a w,S w->(S w->wpAnyH P md ops Q S fuel (listed.setIfInBounds i true) a w)->K' a w)->if Region.wanted oi (yielded ops a.tmps)=true then Oper.wp P oi a w K' Q else K' (a.put oi.dst undef) w)(hj:∀K':Act->World->Prop,Shut (∀a w,S w->(S w->wpAnyH P md ops Q S fuel (listed.setIfInBounds j true) a w)->K' a w)->if Region.wanted oj (yielded ops a.tmps)=true then Oper.wp P oj a w K' Q else K' (a.put oj.dst undef) w)(hk:∀K':Act->World->Prop,Shut (∀a w,S w->(S w->wpAnyH P md ops Q S fuel (listed.setIfInBounds k true) a w)->K' a w)->if Region.wanted ok (yielded ops a.tmps)=true then Oper.wp P ok a w K' Q else K' (a.put ok.dst undef) w)(hr:Region.ready md ops listed=[i,j,k]:=by kernel_rfl)(gi:ops[i]?=some oi:=by exact rfl)(gj:ops[j]?=some oj:=by exact rfl)(gk:ops[k]?=some ok:=by exact rfl):wpAnyH P md ops Q S (fuel+1) listed a w:=wpAnyH_ready hr (by simp) (AllReadyH.cons gi hi (AllReadyH.cons gj hj (AllReadyH.cons gk hk AllReadyH.nil)))
end
theorem Hx{B:Nat}{w w':World}(h:Chg B w w':=by((repeat' (first|(with_reducible assumption)|(with_reducible exact Chg.refl _ _)|(with_reducible refine Chg.drewN ?_ _)|(with_reducible refine Chg.drew ?_)|(with_reducible refine Chg.alloc ?_ _)|(with_reducible refine Chg.setLow ?_ (by omega) _)|(with_reducible refine Chg.setNew ?_ (by omega) _)|(with_reducible refine Chg.setRow ?_ (by omega) _)|(with_reducible refine Chg.ext ?_ (by assumption))|omega));first|done|fail)):Chg B w w':=h
theorem Upd.sz{w w':World}{fs:List Nat}{n:Nat}(X:Upd w w' fs)(e:w.heap.size=n:=by first|(simp only[szA];exact rfl)|exact rfl):n<=w'.heap.size:=e ▸ X.size
theorem xT{p:Prop}(h:p:=by first|exact Aa|omega):p:=h
theorem oM{p:Prop}(h:p:=by omega):p:=h
theorem dC{p:Prop}(h:p:=by decide):p:=h
theorem zT{p:Prop}(h:p:=by first|omega|(simp only[szA];omega)):p:=h
theorem bC{w:World}{g:Nat}{t:TypeId}{cs cs':Array Value}(h:Blk w g t cs:=by exact Bv)(e:cs=cs':=by exact mE):Blk w g t cs':=Blk.cast h e
theorem bD{w:World}{g:Nat}{t:TypeId}{cs cs':Array Value}(h:Blk w g t cs:=by exact Bv)(e:cs=cs':=by first|rfl|simp):Blk w g t cs':=Blk.cast h e
theorem bU{w w':World}{k g:Nat}{t:TypeId}{cs cs':Array Value}(x:Upd w w' [g])(h:Blk w k t cs:=by exact Bv)(e:cs=cs':=by first|rfl|simp)(hk:k≠g:=by omega):Blk w' k t cs':=(Blk.cast h e).upd x (fun hm=>hk (List.mem_singleton.1 hm))
theorem rx0{P:Program}{id:Nat}{Q:Exit->Act->World->Prop}{a a':Act}{w:World}{l:List Oper}(h:∀K:Act->Prop,K a'->wpQuiet P l.toArray (fun w'=>Ext w w') K l a)(k:∀w',Ext w w'->Q .normal a' w')(hm:P.follows .mixedOrders=true:=by kernel_rfl)(hB:Region.lexB .any l.toArray=true:=by kernel_rfl):(Code.region id l.toArray true).wp P Q a w:=bP hm hB (h _ k)
theorem Cx{α:Type}:(∀a b:List α,(a++b).length=a.length+b.length)/\(∀(a:α) (l:List α),(a::l).length=l.length+1)/\([]:List α).length=0:=⟨fun _ _=>List.length_append,fun _ _=>rfl,rfl⟩
theorem Gp{α:Type}:(∀(l:List α) (i:Nat) (x:α),l.toArray.setIfInBounds i x=(l.set i x).toArray)/\(∀(a:α) (l:List α) (x:α),(a::l).set 0 x=x::l)/\(∀(a:α) (l:List α) (i:Nat) (x:α),(a::l).set (i+1) x=a::l.set i x):=⟨fun _ _ _=>by simp only[List.setIfInBounds_toArray],fun _ _ _=>rfl,fun _ _ _ _=>rfl⟩
theorem Lc:(∀(w:World) (g:Nat) (cells:Array Value),(w.setRow g cells).heap.size=w.heap.size)/\(∀(w:World) (g b o:Nat) (cells:Array Value),b<g->(w.setRow g cells).cell? ⟨b,o,none⟩=w.cell? ⟨b,o,none⟩)/\(∀(w:World) (g b o:Nat) (cells:Array Value),g<b->(w.setRow g cells).cell? ⟨b,o,none⟩=w.cell? ⟨b,o,none⟩)/\(∀(w:World) (g b o:Nat) (cells:Array Value),b<g->(w.setRow g cells).frozen? ⟨b,o,none⟩=w.frozen? ⟨b,o,none⟩)/\(∀(w:World) (g b o:Nat) (cells:Array Value),g<b->(w.setRow g cells).frozen? ⟨b,o,none⟩=w.frozen? ⟨b,o,none⟩):=⟨@Hh,@Zi,@Zj,@Wy,@Wz⟩
end Go.Proofs.YtkpmbocbbgocbaaGreat
