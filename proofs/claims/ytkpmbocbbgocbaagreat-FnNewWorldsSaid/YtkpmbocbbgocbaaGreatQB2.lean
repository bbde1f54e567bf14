/- KW HelpU K2 Kh Kb Kc Kn. -/
import Derived.Test.YtkpmbocbbgocbaaGreatQB1
import Derived.Test.YtkpmbocbbgocbaaGreatQGl
import Derived.Test.YtkpmbocbbgocbaaGreatQB0
import Derived.Test.YtkpmbocbbgocbaaGreatQGm
set_option linter.unusedSimpArgs false
set_option linter.unusedVariables false
set_option maxHeartbeats 8000000
set_option maxRecDepth 100000
namespace Go.Proofs.YtkpmbocbbgocbaaGreat
open Go.RowKit Go.G8
theorem Ext.ofSet{w W V:World}{b:Nat}{row:Array Value}(e:V=W.setRow b row)(h:Ext w W)(hb:w.heap.size<=b):Ext w V:=e ▸ Ext.setRow h hb row
theorem Bk.ofSet{W V:World}{b c:Nat}{t:TypeId}{L:List Value}{row:Array Value}(e:V=W.setRow c row)(h:Bk W b t L)(hn:b≠c):Bk V b t L:=e ▸ Bk.rowFar h hn row
theorem Chg.ofSet{B:Nat}{w W V:World}{b:Nat}{row:Array Value}(e:V=W.setRow b row)(h:Chg B w W)(hb:b<B\/w.heap.size<=b):Chg B w V:=e ▸ Chg.setRow h hb row
theorem Fx{w:World}{g o n m:Nat}{p r:List Value}(h:w.rangeAt g o (p++r))(hp:p.length=n)(e:o+n=m):w.rangeAt g o p/\w.rangeAt g m r:=by
 subst hp;subst e
 refine⟨fun j v hv=>h j v (by rw[List.getElem?_append_left (List.getElem?_eq_some_iff.1 hv).1];exact hv),fun j v hv=>?_⟩
 have:=h (p.length+j) v (by rw[List.getElem?_append_right oM,Nat.add_sub_cancel_left];exact hv)
 rwa [<-Nat.add_assoc] at this
theorem Uk{w:World}{g o:Nat}{v:Value}(h:w.rangeAt g o [v]):w.cell? ⟨g,o,none⟩=some v:=h 0 v rfl
theorem Bk.ra{w:World}{g:Nat}{t:TypeId}{L:List Value}(h:Bk w g t L):w.rangeAt g 0 L:=Bk.range (A:=[]) (C:=[]) (Bk.cast h (by simp)) rfl
def Qh(w:World)(v:Value)(l:List Int):Prop:=Aj 1 w v l
def Jr(B:Nat)(w:World)(v:Value)(l:List Int)(F:List Nat):Prop:=Af B 2 1 w v l/\F=Be [v]
def Xp(l:List Int):Nat:=l.length
section
variable {B B':Nat} {w w':World} {v:Value} {l:List Int} {F:List Nat}
theorem Qh.shape(h:Qh w v l):∃a n k,v=.slice a n k:=Aj.shape h
theorem Qh.ext(h:Qh w v l)(x:Ext w w'):Qh w' v l:=Aj.ext h x
theorem Jr.rd(h:Jr B w v l F):Qh w v l:=h.1.ints
theorem Jr.keep(h:Jr B w v l F)(x:Chg B w w'):Jr B w' v l F:=⟨h.1.keep x,h.2⟩
theorem Jr.mono(h:Jr B w v l F)(x:B'<=B):Jr B' w v l F:=⟨h.1.mono x,h.2⟩
theorem Jr.low(h:Jr B w v l F):∀k,k ∈ F->B<=k/\k<w.heap.size:=by obtain⟨h,rfl⟩:=h;exact h.foot
theorem Jr.upd(h:Jr B w v l F){fs:List Nat}(x:Upd w w' fs)(hn:∀k,k ∈ F->k ∈ fs->False):Jr B w' v l F:=by
 obtain⟨h,rfl⟩:=h
 exact⟨Af.upd' h x hn,rfl⟩
end
def Ni(w:World)(v:Value)(l:List Ar):Prop:=Aj 3 w v (Cz l)
def Ku(B:Nat)(w:World)(v:Value)(l:List Ar)(F:List Nat):Prop:=Af B 290 3 w v (Cz l)/\F=Be [v]
def iQ(l:List Ar):Nat:=l.length
section
variable {B B':Nat} {w w':World} {v:Value} {l:List Ar} {F:List Nat}
theorem Ni.shape(h:Ni w v l):∃a n k,v=.slice a n k:=Aj.shape h
theorem Ni.ext(h:Ni w v l)(x:Ext w w'):Ni w' v l:=Aj.ext h x
theorem Ku.rd(h:Ku B w v l F):Ni w v l:=h.1.ints
theorem Ku.keep(h:Ku B w v l F)(x:Chg B w w'):Ku B w' v l F:=⟨h.1.keep x,h.2⟩
theorem Ku.mono(h:Ku B w v l F)(x:B'<=B):Ku B' w v l F:=⟨h.1.mono x,h.2⟩
theorem Ku.low(h:Ku B w v l F):∀k,k ∈ F->B<=k/\k<w.heap.size:=by obtain⟨h,rfl⟩:=h;exact h.foot
theorem Ku.upd(h:Ku B w v l F){fs:List Nat}(x:Upd w w' fs)(hn:∀k,k ∈ F->k ∈ fs->False):Ku B w' v l F:=by
 obtain⟨h,rfl⟩:=h
 exact⟨Af.upd' h x hn,rfl⟩
end
def Vp(w:World)(v:Value)(l:List Is):Prop:=Aj 4 w v (Np l)
def Nj(B:Nat)(w:World)(v:Value)(l:List Is)(F:List Nat):Prop:=Af B 284 4 w v (Np l)/\F=Be [v]
def tG(l:List Is):Nat:=l.length
section
variable {B B':Nat} {w w':World} {v:Value} {l:List Is} {F:List Nat}
theorem Vp.shape(h:Vp w v l):∃a n k,v=.slice a n k:=Aj.shape h
theorem Vp.ext(h:Vp w v l)(x:Ext w w'):Vp w' v l:=Aj.ext h x
theorem Nj.rd(h:Nj B w v l F):Vp w v l:=h.1.ints
theorem Nj.keep(h:Nj B w v l F)(x:Chg B w w'):Nj B w' v l F:=⟨h.1.keep x,h.2⟩
theorem Nj.mono(h:Nj B w v l F)(x:B'<=B):Nj B' w v l F:=⟨h.1.mono x,h.2⟩
theorem Nj.low(h:Nj B w v l F):∀k,k ∈ F->B<=k/\k<w.heap.size:=by obtain⟨h,rfl⟩:=h;exact h.foot
theorem Nj.upd(h:Nj B w v l F){fs:List Nat}(x:Upd w w' fs)(hn:∀k,k ∈ F->k ∈ fs->False):Nj B w' v l F:=by
 obtain⟨h,rfl⟩:=h
 exact⟨Af.upd' h x hn,rfl⟩
end
def Gy(w:World)(v:Value)(l:List Da):Prop:=Aj 7 w v (Fw l)
def Kv(B:Nat)(w:World)(v:Value)(l:List Da)(F:List Nat):Prop:=Af B 161 7 w v (Fw l)/\F=Be [v]
def aF(l:List Da):Nat:=l.length
section
variable {B B':Nat} {w w':World} {v:Value} {l:List Da} {F:List Nat}
theorem Gy.shape(h:Gy w v l):∃a n k,v=.slice a n k:=Aj.shape h
theorem Gy.ext(h:Gy w v l)(x:Ext w w'):Gy w' v l:=Aj.ext h x
theorem Kv.rd(h:Kv B w v l F):Gy w v l:=h.1.ints
theorem Kv.keep(h:Kv B w v l F)(x:Chg B w w'):Kv B w' v l F:=⟨h.1.keep x,h.2⟩
theorem Kv.mono(h:Kv B w v l F)(x:B'<=B):Kv B' w v l F:=⟨h.1.mono x,h.2⟩
theorem Kv.low(h:Kv B w v l F):∀k,k ∈ F->B<=k/\k<w.heap.size:=by obtain⟨h,rfl⟩:=h;exact h.foot
theorem Kv.upd(h:Kv B w v l F){fs:List Nat}(x:Upd w w' fs)(hn:∀k,k ∈ F->k ∈ fs->False):Kv B w' v l F:=by
 obtain⟨h,rfl⟩:=h
 exact⟨Af.upd' h x hn,rfl⟩
end
def Vq(w:World)(v:Value)(l:List Jd):Prop:=Aj 4 w v (Tb l)
def Mq(B:Nat)(w:World)(v:Value)(l:List Jd)(F:List Nat):Prop:=Af B 276 4 w v (Tb l)/\F=Be [v]
def fA(l:List Jd):Nat:=l.length
section
variable {B B':Nat} {w w':World} {v:Value} {l:List Jd} {F:List Nat}
theorem Vq.shape(h:Vq w v l):∃a n k,v=.slice a n k:=Aj.shape h
theorem Vq.ext(h:Vq w v l)(x:Ext w w'):Vq w' v l:=Aj.ext h x
theorem Mq.rd(h:Mq B w v l F):Vq w v l:=h.1.ints
theorem Mq.keep(h:Mq B w v l F)(x:Chg B w w'):Mq B w' v l F:=⟨h.1.keep x,h.2⟩
theorem Mq.mono(h:Mq B w v l F)(x:B'<=B):Mq B' w v l F:=⟨h.1.mono x,h.2⟩
theorem Mq.low(h:Mq B w v l F):∀k,k ∈ F->B<=k/\k<w.heap.size:=by obtain⟨h,rfl⟩:=h;exact h.foot
theorem Mq.upd(h:Mq B w v l F){fs:List Nat}(x:Upd w w' fs)(hn:∀k,k ∈ F->k ∈ fs->False):Mq B w' v l F:=by
 obtain⟨h,rfl⟩:=h
 exact⟨Af.upd' h x hn,rfl⟩
end
def Sm(w:World)(v:Value)(l:List Gf):Prop:=Aj 2 w v (dU l)
def Lj(B:Nat)(w:World)(v:Value)(l:List Gf)(F:List Nat):Prop:=Af B 258 2 w v (dU l)/\F=Be [v]
def pY(l:List Gf):Nat:=l.length
section
variable {B B':Nat} {w w':World} {v:Value} {l:List Gf} {F:List Nat}
theorem Sm.shape(h:Sm w v l):∃a n k,v=.slice a n k:=Aj.shape h
theorem Sm.ext(h:Sm w v l)(x:Ext w w'):Sm w' v l:=Aj.ext h x
theorem Lj.rd(h:Lj B w v l F):Sm w v l:=h.1.ints
theorem Lj.keep(h:Lj B w v l F)(x:Chg B w w'):Lj B w' v l F:=⟨h.1.keep x,h.2⟩
theorem Lj.mono(h:Lj B w v l F)(x:B'<=B):Lj B' w v l F:=⟨h.1.mono x,h.2⟩
theorem Lj.low(h:Lj B w v l F):∀k,k ∈ F->B<=k/\k<w.heap.size:=by obtain⟨h,rfl⟩:=h;exact h.foot
theorem Lj.upd(h:Lj B w v l F){fs:List Nat}(x:Upd w w' fs)(hn:∀k,k ∈ F->k ∈ fs->False):Lj B w' v l F:=by
 obtain⟨h,rfl⟩:=h
 exact⟨Af.upd' h x hn,rfl⟩
end
def Qi(w:World)(v:Value)(l:List Aq):Prop:=Aj 9 w v (Ds l)
def Js(B:Nat)(w:World)(v:Value)(l:List Aq)(F:List Nat):Prop:=Af B 281 9 w v (Ds l)/\F=Be [v]
def nT(l:List Aq):Nat:=l.length
section
variable {B B':Nat} {w w':World} {v:Value} {l:List Aq} {F:List Nat}
theorem Qi.shape(h:Qi w v l):∃a n k,v=.slice a n k:=Aj.shape h
theorem Qi.ext(h:Qi w v l)(x:Ext w w'):Qi w' v l:=Aj.ext h x
theorem Js.rd(h:Js B w v l F):Qi w v l:=h.1.ints
theorem Js.keep(h:Js B w v l F)(x:Chg B w w'):Js B w' v l F:=⟨h.1.keep x,h.2⟩
theorem Js.mono(h:Js B w v l F)(x:B'<=B):Js B' w v l F:=⟨h.1.mono x,h.2⟩
theorem Js.low(h:Js B w v l F):∀k,k ∈ F->B<=k/\k<w.heap.size:=by obtain⟨h,rfl⟩:=h;exact h.foot
theorem Js.upd(h:Js B w v l F){fs:List Nat}(x:Upd w w' fs)(hn:∀k,k ∈ F->k ∈ fs->False):Js B w' v l F:=by
 obtain⟨h,rfl⟩:=h
 exact⟨Af.upd' h x hn,rfl⟩
end
def Tp(w:World)(v:Value)(l:List Qs):Prop:=Sf w v (Ji l)
def Nk(B:Nat)(w:World)(v:Value)(l:List Qs)(F:List Nat):Prop:=Iw B w v (Ji l) F
def tH(l:List Qs):Nat:=Ky (Ji l)
section
variable {B B':Nat} {w w':World} {v:Value} {l:List Qs} {F:List Nat}
theorem Tp.shape(h:Tp w v l):∃a n k,v=.slice a n k:=Sf.shape h
theorem Tp.ext(h:Tp w v l)(x:Ext w w'):Tp w' v l:=Sf.ext h x
theorem Nk.rd(h:Nk B w v l F):Tp w v l:=Iw.rd h
theorem Nk.keep(h:Nk B w v l F)(x:Chg B w w'):Nk B w' v l F:=Iw.keep h x
theorem Nk.mono(h:Nk B w v l F)(x:B'<=B):Nk B' w v l F:=Iw.mono h x
theorem Nk.low(h:Nk B w v l F):∀k,k ∈ F->B<=k/\k<w.heap.size:=Iw.low h
theorem Nk.upd(h:Nk B w v l F){fs:List Nat}(x:Upd w w' fs)(hn:∀k,k ∈ F->k ∈ fs->False):Nk B w' v l F:=Iw.upd h x hn
end
theorem Gw.cells{w:World}{v:Value}{d:Ez}(h:Gw w v d):∃L:List Value,v=.agg L.toArray/\L.length=2/\∀x,x ∈ L->x.oneCell'=true:=by
 obtain⟨a0,n0,k0,a1,n1,k1,rfl⟩:=h.shape
 exact⟨_,rfl,rfl,by intro x hx;simp only[List.mem_cons,List.not_mem_nil,or_false] at hx;rcases hx with rfl|rfl <;> rfl⟩
def Ra(d:Ez):Nat:=Ky (Ac d.Kept)+Ky (Ah d.Wait)
theorem Dc.keepK{B:Nat}{w w':World}{v:Value}{d:Ez}{F:List Nat}(h:Dc B w v d F)(x:Chg B w w'):Dc B w' v d F:=by
 obtain⟨t0,t1,s0,s1,e,h0,h1,hd,hF⟩:=h
 exact⟨t0,t1,s0,s1,e,h0.keep x,h1.keep x,hd,hF⟩
theorem Dc.monoK{B B':Nat}{w:World}{v:Value}{d:Ez}{F:List Nat}(h:Dc B w v d F)(x:B'<=B):Dc B' w v d F:=by
 obtain⟨t0,t1,s0,s1,e,h0,h1,hd,hF⟩:=h
 exact⟨t0,t1,s0,s1,e,h0.mono x,h1.mono x,hd,hF⟩
theorem Ix.cells{w:World}{v:Value}{d:It}(h:Ix w v d):∃L:List Value,v=.agg L.toArray/\L.length=12/\∀x,x ∈ L->x.oneCell'=true:=by
 obtain⟨a0,n0,k0,a1,n1,k1,a4,n4,k4,a5,n5,k5,rfl⟩:=h.shape
 exact⟨_,rfl,rfl,by intro x hx;simp only[List.mem_cons,List.not_mem_nil,or_false] at hx;rcases hx with rfl|rfl|rfl|rfl|rfl|rfl|rfl|rfl|rfl|rfl|rfl|rfl <;> rfl⟩
def Tq(s:It):Nat:=Ky (Ac s.Disk.Kept)+Ky (Ah s.Disk.Wait)+s.State.Pairs.length+s.State.Jobs.length
theorem Hz.cells{w:World}{v:Value}{d:De}(h:Hz w v d):∃L:List Value,v=.agg L.toArray/\L.length=15/\∀x,x ∈ L->x.oneCell'=true:=by
 obtain⟨a7,n7,k7,rfl⟩:=h.shape
 exact⟨_,rfl,rfl,by intro x hx;simp only[List.mem_cons,List.not_mem_nil,or_false] at hx;rcases hx with rfl|rfl|rfl|rfl|rfl|rfl|rfl|rfl|rfl|rfl|rfl|rfl|rfl|rfl|rfl <;> rfl⟩
def Nl(s:De):Nat:=s.View.Jobs.Open.length
theorem Sl.bools{w:World}{v:Value}{l:List Bool}(h:Sl 1 w v (l.map .bool)):∃a cap,v=.slice a l.length cap/\l.length<=cap/\cap<=maxLen /\
  ∀i,i<l.length->∃x b off,l[i]?=some x/\a=some ⟨b,off,none⟩/\b<w.heap.size/\w.cell? ⟨b,off+i,none⟩=some (.bool x):=by
 obtain⟨a,len,cap,rfl,hl,hc,hm,hn,ha⟩:=h
 simp only[List.length_map,Nat.mul_one] at hl
 subst hl
 refine⟨a,cap,rfl,hc,hm,fun i hi=>?_⟩
 cases a with
 | none=>have:=hn rfl;omega
 | some p =>
  obtain⟨b,off,sp⟩:=p
  obtain⟨rfl,hb,hcell⟩:=ha b off sp rfl oM
  have hx:l[i]?=some l[i]:=List.getElem?_eq_getElem hi
  exact⟨l[i],b,off,hx,rfl,hb,hcell i _ (by rw[List.getElem?_map,hx];rfl)⟩
theorem Sl.shapeB{w:World}{v:Value}{l:List Bool}(h:Sl 1 w v (l.map .bool)):∃a n k,v=.slice a n k:=by obtain⟨a,n,k,h,_⟩:=h;exact⟨a,n,k,h⟩
def Pn(w:World)(v:Value)(l:List Bool):Prop:=Sl 1 w v (l.map .bool)
def Lk(B:Nat)(w:World)(v:Value)(l:List Bool)(F:List Nat):Prop:=Own B 4 1 w v (l.map .bool)/\F=Be [v]
def aG(l:List Bool):Nat:=l.length
section
variable {B B':Nat} {w w':World} {v:Value} {l:List Bool} {F:List Nat}
theorem Pn.shape(h:Pn w v l):∃a n k,v=.slice a n k:=Sl.shapeB h
theorem Pn.ext(h:Pn w v l)(x:Ext w w'):Pn w' v l:=Sl.ext h x
theorem Lk.rd(h:Lk B w v l F):Pn w v l:=Own.sl h.1
theorem Lk.keep(h:Lk B w v l F)(x:Chg B w w'):Lk B w' v l F:=⟨Own.keep h.1 x,h.2⟩
theorem Lk.mono(h:Lk B w v l F)(x:B'<=B):Lk B' w v l F:=⟨Own.mono h.1 x,h.2⟩
theorem Lk.low(h:Lk B w v l F):∀k,k ∈ F->B<=k/\k<w.heap.size:=by obtain⟨h,rfl⟩:=h;exact Own.foot h
end
def Kf(w:World)(v:Value)(d:Jg):Prop:=∃p0:List Value,∃p1:List Value,v=.agg (p0++(p1++[])).toArray/\p0.length=2/\p1.length=2/\Gw w (.agg p0.toArray) d.A/\Gw w (.agg p1.toArray) d.B
def Hm(B:Nat)(w:World)(v:Value)(d:Jg)(F:List Nat):Prop:=∃p0:List Value,∃p1:List Value,∃F0:List Nat,∃F1:List Nat,v=.agg (p0++(p1++[])).toArray/\p0.length=2/\p1.length=2/\Dc B w (.agg p0.toArray) d.A F0/\Dc B w (.agg p1.toArray) d.B F1/\[F0,F1].Pairwise (fun a b=>∀k,k ∈ a->k ∈ b->False)/\F=F0++F1
def kU(d:Jg):Nat:=Ra d.A+Ra d.B
section
variable {B B':Nat} {w w':World} {v:Value} {d:Jg} {F:List Nat}
theorem Kf.ext(h:Kf w v d)(x:Ext w w'):Kf w' v d:=by
 obtain⟨p0,p1,e,l0,l1,g0,g1⟩:=h
 exact⟨p0,p1,e,l0,l1,g0.ext x,g1.ext x⟩
theorem Hm.rd(h:Hm B w v d F):Kf w v d:=by
 obtain⟨p0,p1,F0,F1,e,l0,l1,g0,g1,hdj,hF⟩:=h
 exact⟨p0,p1,e,l0,l1,g0.rd,g1.rd⟩
theorem Hm.keep(h:Hm B w v d F)(x:Chg B w w'):Hm B w' v d F:=by
 obtain⟨p0,p1,F0,F1,e,l0,l1,g0,g1,hdj,hF⟩:=h
 exact⟨p0,p1,F0,F1,e,l0,l1,g0.keepK x,g1.keepK x,hdj,hF⟩
theorem Hm.mono(h:Hm B w v d F)(x:B'<=B):Hm B' w v d F:=by
 obtain⟨p0,p1,F0,F1,e,l0,l1,g0,g1,hdj,hF⟩:=h
 exact⟨p0,p1,F0,F1,e,l0,l1,g0.monoK x,g1.monoK x,hdj,hF⟩
theorem Hm.low(h:Hm B w v d F):∀k,k ∈ F->B<=k/\k<w.heap.size:=by
 obtain⟨p0,p1,F0,F1,e,l0,l1,g0,g1,hdj,rfl⟩:=h
 intro k hk
 simp only[List.mem_append] at hk
 rcases hk with hk|hk
 .
  exact g0.low k hk
 exact g1.low k hk
theorem Kf.cells(h:Kf w v d):∃L:List Value,v=.agg L.toArray/\L.length=4/\∀x,x ∈ L->x.oneCell'=true:=by
 obtain⟨p0,p1,rfl,l0,l1,g0,g1⟩:=h
 refine⟨_,rfl,by simp[l0,l1],?_⟩
 intro x hx
 simp only[List.mem_append,List.mem_cons,List.not_mem_nil,or_false] at hx
 rcases hx with hx|hx
 .
  obtain⟨L,e,-,h1⟩:=g0.cells;rw[Ct e] at hx;exact h1 x hx
 obtain⟨L,e,-,h1⟩:=g1.cells;rw[Ct e] at hx;exact h1 x hx
end
def Mb(w:World)(v:Value)(d:Di):Prop:=∃t3:Value,v=.agg ([Value.int .i64 d.Num]++([Value.int .i64 d.Base]++([Value.int .i64 d.Time]++([t3]++[])))).toArray/\Ni w t3 d.Seen
def Mc(B:Nat)(w:World)(v:Value)(d:Di)(F:List Nat):Prop:=∃t3:Value,∃F3:List Nat,v=.agg ([Value.int .i64 d.Num]++([Value.int .i64 d.Base]++([Value.int .i64 d.Time]++([t3]++[])))).toArray/\Ku B w t3 d.Seen F3/\[F3].Pairwise (fun a b=>∀k,k ∈ a->k ∈ b->False)/\F=F3
def Ul(d:Di):Nat:=iQ d.Seen
section
variable {B B':Nat} {w w':World} {v:Value} {d:Di} {F:List Nat}
theorem Mb.ext(h:Mb w v d)(x:Ext w w'):Mb w' v d:=by
 obtain⟨t3,e,g3⟩:=h
 exact⟨t3,e,g3.ext x⟩
theorem Mc.rd(h:Mc B w v d F):Mb w v d:=by
 obtain⟨t3,F3,e,g3,hdj,hF⟩:=h
 exact⟨t3,e,g3.rd⟩
theorem Mc.keep(h:Mc B w v d F)(x:Chg B w w'):Mc B w' v d F:=by
 obtain⟨t3,F3,e,g3,hdj,hF⟩:=h
 exact⟨t3,F3,e,g3.keep x,hdj,hF⟩
theorem Mc.mono(h:Mc B w v d F)(x:B'<=B):Mc B' w v d F:=by
 obtain⟨t3,F3,e,g3,hdj,hF⟩:=h
 exact⟨t3,F3,e,g3.mono x,hdj,hF⟩
theorem Mc.low(h:Mc B w v d F):∀k,k ∈ F->B<=k/\k<w.heap.size:=by
 obtain⟨t3,F3,e,g3,hdj,rfl⟩:=h
 intro k hk
 exact g3.low k hk
theorem Mb.cells(h:Mb w v d):∃L:List Value,v=.agg L.toArray/\L.length=4/\∀x,x ∈ L->x.oneCell'=true:=by
 obtain⟨t3,rfl,g3⟩:=h
 refine⟨_,rfl,by simp[],?_⟩
 intro x hx
 simp only[List.mem_append,List.mem_cons,List.not_mem_nil,or_false] at hx
 rcases hx with rfl|rfl|rfl|rfl
 .
  rfl
 .
  rfl
 .
  rfl
 obtain⟨a,n,k,rfl⟩:=g3.shape;rfl
end
def Vr(w:World)(v:Value)(d:Df):Prop:=∃t2:Value,v=.agg ([Value.int .i64 d.Base]++([Value.int .i64 d.Time]++([t2]++[]))).toArray/\Qi w t2 d.Entries
def Mr(B:Nat)(w:World)(v:Value)(d:Df)(F:List Nat):Prop:=∃t2:Value,∃F2:List Nat,v=.agg ([Value.int .i64 d.Base]++([Value.int .i64 d.Time]++([t2]++[]))).toArray/\Js B w t2 d.Entries F2/\[F2].Pairwise (fun a b=>∀k,k ∈ a->k ∈ b->False)/\F=F2
def fB(d:Df):Nat:=nT d.Entries
section
variable {B B':Nat} {w w':World} {v:Value} {d:Df} {F:List Nat}
theorem Vr.ext(h:Vr w v d)(x:Ext w w'):Vr w' v d:=by
 obtain⟨t2,e,g2⟩:=h
 exact⟨t2,e,g2.ext x⟩
theorem Mr.rd(h:Mr B w v d F):Vr w v d:=by
 obtain⟨t2,F2,e,g2,hdj,hF⟩:=h
 exact⟨t2,e,g2.rd⟩
theorem Mr.keep(h:Mr B w v d F)(x:Chg B w w'):Mr B w' v d F:=by
 obtain⟨t2,F2,e,g2,hdj,hF⟩:=h
 exact⟨t2,F2,e,g2.keep x,hdj,hF⟩
theorem Mr.mono(h:Mr B w v d F)(x:B'<=B):Mr B' w v d F:=by
 obtain⟨t2,F2,e,g2,hdj,hF⟩:=h
 exact⟨t2,F2,e,g2.mono x,hdj,hF⟩
theorem Mr.low(h:Mr B w v d F):∀k,k ∈ F->B<=k/\k<w.heap.size:=by
 obtain⟨t2,F2,e,g2,hdj,rfl⟩:=h
 intro k hk
 exact g2.low k hk
theorem Vr.cells(h:Vr w v d):∃L:List Value,v=.agg L.toArray/\L.length=3/\∀x,x ∈ L->x.oneCell'=true:=by
 obtain⟨t2,rfl,g2⟩:=h
 refine⟨_,rfl,by simp[],?_⟩
 intro x hx
 simp only[List.mem_append,List.mem_cons,List.not_mem_nil,or_false] at hx
 rcases hx with rfl|rfl|rfl
 .
  rfl
 .
  rfl
 obtain⟨a,n,k,rfl⟩:=g2.shape;rfl
end
def Gk(w:World)(v:Value)(d:El):Prop:=∃t1:Value,∃t2:Value,v=.agg ([Value.int .i64 d.Id]++([t1]++([t2]++([Value.int .i64 d.Last]++[])))).toArray/\Gy w t1 d.Todo/\Vq w t2 d.Gots
def Db(B:Nat)(w:World)(v:Value)(d:El)(F:List Nat):Prop:=∃t1:Value,∃t2:Value,∃F1:List Nat,∃F2:List Nat,v=.agg ([Value.int .i64 d.Id]++([t1]++([t2]++([Value.int .i64 d.Last]++[])))).toArray/\Kv B w t1 d.Todo F1/\Mq B w t2 d.Gots F2/\[F1,F2].Pairwise (fun a b=>∀k,k ∈ a->k ∈ b->False)/\F=F1++F2
def Lg(d:El):Nat:=aF d.Todo+fA d.Gots
section
variable {B B':Nat} {w w':World} {v:Value} {d:El} {F:List Nat}
theorem Gk.ext(h:Gk w v d)(x:Ext w w'):Gk w' v d:=by
 obtain⟨t1,t2,e,g1,g2⟩:=h
 exact⟨t1,t2,e,g1.ext x,g2.ext x⟩
theorem Db.rd(h:Db B w v d F):Gk w v d:=by
 obtain⟨t1,t2,F1,F2,e,g1,g2,hdj,hF⟩:=h
 exact⟨t1,t2,e,g1.rd,g2.rd⟩
theorem Db.keep(h:Db B w v d F)(x:Chg B w w'):Db B w' v d F:=by
 obtain⟨t1,t2,F1,F2,e,g1,g2,hdj,hF⟩:=h
 exact⟨t1,t2,F1,F2,e,g1.keep x,g2.keep x,hdj,hF⟩
theorem Db.mono(h:Db B w v d F)(x:B'<=B):Db B' w v d F:=by
 obtain⟨t1,t2,F1,F2,e,g1,g2,hdj,hF⟩:=h
 exact⟨t1,t2,F1,F2,e,g1.mono x,g2.mono x,hdj,hF⟩
theorem Db.low(h:Db B w v d F):∀k,k ∈ F->B<=k/\k<w.heap.size:=by
 obtain⟨t1,t2,F1,F2,e,g1,g2,hdj,rfl⟩:=h
 intro k hk
 simp only[List.mem_append] at hk
 rcases hk with hk|hk
 .
  exact g1.low k hk
 exact g2.low k hk
theorem Gk.cells(h:Gk w v d):∃L:List Value,v=.agg L.toArray/\L.length=4/\∀x,x ∈ L->x.oneCell'=true:=by
 obtain⟨t1,t2,rfl,g1,g2⟩:=h
 refine⟨_,rfl,by simp[],?_⟩
 intro x hx
 simp only[List.mem_append,List.mem_cons,List.not_mem_nil,or_false] at hx
 rcases hx with rfl|rfl|rfl|rfl
 .
  rfl
 .
  obtain⟨a,n,k,rfl⟩:=g1.shape;rfl
 .
  obtain⟨a,n,k,rfl⟩:=g2.shape;rfl
 rfl
end
def Rq(w:World)(v:Value)(d:Lu):Prop:=∃t0:Value,∃t1:Value,v=.agg ([t0]++([t1]++[])).toArray/\Tp w t0 d.Flight/\Sm w t1 d.Cuts
def Im(B:Nat)(w:World)(v:Value)(d:Lu)(F:List Nat):Prop:=∃t0:Value,∃t1:Value,∃F0:List Nat,∃F1:List Nat,v=.agg ([t0]++([t1]++[])).toArray/\Nk B w t0 d.Flight F0/\Lj B w t1 d.Cuts F1/\[F0,F1].Pairwise (fun a b=>∀k,k ∈ a->k ∈ b->False)/\F=F0++F1
def aH(d:Lu):Nat:=tH d.Flight+pY d.Cuts
section
variable {B B':Nat} {w w':World} {v:Value} {d:Lu} {F:List Nat}
theorem Rq.ext(h:Rq w v d)(x:Ext w w'):Rq w' v d:=by
 obtain⟨t0,t1,e,g0,g1⟩:=h
 exact⟨t0,t1,e,g0.ext x,g1.ext x⟩
theorem Im.rd(h:Im B w v d F):Rq w v d:=by
 obtain⟨t0,t1,F0,F1,e,g0,g1,hdj,hF⟩:=h
 exact⟨t0,t1,e,g0.rd,g1.rd⟩
theorem Im.keep(h:Im B w v d F)(x:Chg B w w'):Im B w' v d F:=by
 obtain⟨t0,t1,F0,F1,e,g0,g1,hdj,hF⟩:=h
 exact⟨t0,t1,F0,F1,e,g0.keep x,g1.keep x,hdj,hF⟩
theorem Im.mono(h:Im B w v d F)(x:B'<=B):Im B' w v d F:=by
 obtain⟨t0,t1,F0,F1,e,g0,g1,hdj,hF⟩:=h
 exact⟨t0,t1,F0,F1,e,g0.mono x,g1.mono x,hdj,hF⟩
theorem Im.low(h:Im B w v d F):∀k,k ∈ F->B<=k/\k<w.heap.size:=by
 obtain⟨t0,t1,F0,F1,e,g0,g1,hdj,rfl⟩:=h
 intro k hk
 simp only[List.mem_append] at hk
 rcases hk with hk|hk
 .
  exact g0.low k hk
 exact g1.low k hk
theorem Rq.cells(h:Rq w v d):∃L:List Value,v=.agg L.toArray/\L.length=2/\∀x,x ∈ L->x.oneCell'=true:=by
 obtain⟨t0,t1,rfl,g0,g1⟩:=h
 refine⟨_,rfl,by simp[],?_⟩
 intro x hx
 simp only[List.mem_append,List.mem_cons,List.not_mem_nil,or_false] at hx
 rcases hx with rfl|rfl
 .
  obtain⟨a,n,k,rfl⟩:=g0.shape;rfl
 obtain⟨a,n,k,rfl⟩:=g1.shape;rfl
end
end Go.Proofs.YtkpmbocbbgocbaaGreat
