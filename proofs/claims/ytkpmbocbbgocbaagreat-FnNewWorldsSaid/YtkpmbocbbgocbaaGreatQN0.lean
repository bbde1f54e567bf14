/- HelpV KQ KQ2 KQL KQY. -/
import Derived.Test.YtkpmbocbbgocbaaGreatQB3
set_option linter.unusedSimpArgs false
set_option linter.unusedVariables false
set_option maxHeartbeats 8000000
set_option maxRecDepth 100000
namespace Go.Proofs.YtkpmbocbbgocbaaGreat
open Go.RowKit Go.G8
def wF(q:Int)(n:Nat):List Bool:=(List.range n).map fun i=>((q+(i:Nat)) % 3 == 0)
def qX(l:List Int):Nat:=l.length
def Qk(B:Nat)(w:World)(v:Value)(l:List Int)(F:List Nat)(q:Int):Prop:=Af B 2 1 w v (run q (l.length))/\F=Be [v]
section
variable {B B':Nat} {w w':World} {v:Value} {l:List Int} {F:List Nat} {q:Int}
theorem Qk.ext(h:Qk B w v l F q)(x:Ext w w'):Qk B w' v l F q:=⟨Own.ext h.1 x,h.2⟩
theorem Qk.upd(h:Qk B w v l F q){fs:List Nat}(x:Upd w w' fs)(hn:∀k,k ∈ F->k ∈ fs->False):Qk B w' v l F q:=by
 obtain⟨h,rfl⟩:=h
 exact⟨Af.upd' h x hn,rfl⟩
end
def fL(l:List Ar):Nat:=l.length*3
def Rc(B:Nat)(w:World)(v:Value)(l:List Ar)(F:List Nat)(q:Int):Prop:=Af B 290 3 w v (run q (l.length*3))/\F=Be [v]
section
variable {B B':Nat} {w w':World} {v:Value} {l:List Ar} {F:List Nat} {q:Int}
theorem Rc.ext(h:Rc B w v l F q)(x:Ext w w'):Rc B w' v l F q:=⟨Own.ext h.1 x,h.2⟩
theorem Rc.upd(h:Rc B w v l F q){fs:List Nat}(x:Upd w w' fs)(hn:∀k,k ∈ F->k ∈ fs->False):Rc B w' v l F q:=by
 obtain⟨h,rfl⟩:=h
 exact⟨Af.upd' h x hn,rfl⟩
end
def vH(l:List Is):Nat:=l.length*4
def Vv(B:Nat)(w:World)(v:Value)(l:List Is)(F:List Nat)(q:Int):Prop:=Af B 284 4 w v (run q (l.length*4))/\F=Be [v]
section
variable {B B':Nat} {w w':World} {v:Value} {l:List Is} {F:List Nat} {q:Int}
theorem Vv.ext(h:Vv B w v l F q)(x:Ext w w'):Vv B w' v l F q:=⟨Own.ext h.1 x,h.2⟩
theorem Vv.upd(h:Vv B w v l F q){fs:List Nat}(x:Upd w w' fs)(hn:∀k,k ∈ F->k ∈ fs->False):Vv B w' v l F q:=by
 obtain⟨h,rfl⟩:=h
 exact⟨Af.upd' h x hn,rfl⟩
end
def mQ(l:List Da):Nat:=l.length*7
def Sr(B:Nat)(w:World)(v:Value)(l:List Da)(F:List Nat)(q:Int):Prop:=Af B 161 7 w v (run q (l.length*7))/\F=Be [v]
section
variable {B B':Nat} {w w':World} {v:Value} {l:List Da} {F:List Nat} {q:Int}
theorem Sr.ext(h:Sr B w v l F q)(x:Ext w w'):Sr B w' v l F q:=⟨Own.ext h.1 x,h.2⟩
theorem Sr.upd(h:Sr B w v l F q){fs:List Nat}(x:Upd w w' fs)(hn:∀k,k ∈ F->k ∈ fs->False):Sr B w' v l F q:=by
 obtain⟨h,rfl⟩:=h
 exact⟨Af.upd' h x hn,rfl⟩
end
def vI(l:List Jd):Nat:=l.length*4
def Vw(B:Nat)(w:World)(v:Value)(l:List Jd)(F:List Nat)(q:Int):Prop:=Af B 276 4 w v (run q (l.length*4))/\F=Be [v]
section
variable {B B':Nat} {w w':World} {v:Value} {l:List Jd} {F:List Nat} {q:Int}
theorem Vw.ext(h:Vw B w v l F q)(x:Ext w w'):Vw B w' v l F q:=⟨Own.ext h.1 x,h.2⟩
theorem Vw.upd(h:Vw B w v l F q){fs:List Nat}(x:Upd w w' fs)(hn:∀k,k ∈ F->k ∈ fs->False):Vw B w' v l F q:=by
 obtain⟨h,rfl⟩:=h
 exact⟨Af.upd' h x hn,rfl⟩
end
def tP(l:List Gf):Nat:=l.length*2
def Ss(B:Nat)(w:World)(v:Value)(l:List Gf)(F:List Nat)(q:Int):Prop:=Af B 258 2 w v (run q (l.length*2))/\F=Be [v]
section
variable {B B':Nat} {w w':World} {v:Value} {l:List Gf} {F:List Nat} {q:Int}
theorem Ss.ext(h:Ss B w v l F q)(x:Ext w w'):Ss B w' v l F q:=⟨Own.ext h.1 x,h.2⟩
theorem Ss.upd(h:Ss B w v l F q){fs:List Nat}(x:Upd w w' fs)(hn:∀k,k ∈ F->k ∈ fs->False):Ss B w' v l F q:=by
 obtain⟨h,rfl⟩:=h
 exact⟨Af.upd' h x hn,rfl⟩
end
def qY(l:List Aq):Nat:=l.length*9
def Ql(B:Nat)(w:World)(v:Value)(l:List Aq)(F:List Nat)(q:Int):Prop:=Af B 281 9 w v (run q (l.length*9))/\F=Be [v]
section
variable {B B':Nat} {w w':World} {v:Value} {l:List Aq} {F:List Nat} {q:Int}
theorem Ql.ext(h:Ql B w v l F q)(x:Ext w w'):Ql B w' v l F q:=⟨Own.ext h.1 x,h.2⟩
theorem Ql.upd(h:Ql B w v l F q){fs:List Nat}(x:Upd w w' fs)(hn:∀k,k ∈ F->k ∈ fs->False):Ql B w' v l F q:=by
 obtain⟨h,rfl⟩:=h
 exact⟨Af.upd' h x hn,rfl⟩
end
def qZ(l:List Qs):Nat:=sQ (Ji l)
def Vx(B:Nat)(w:World)(v:Value)(l:List Qs)(F:List Nat)(q:Int):Prop:=Zv B w v (Ji l) F q
section
variable {B B':Nat} {w w':World} {v:Value} {l:List Qs} {F:List Nat} {q:Int}
theorem Vx.ext(h:Vx B w v l F q)(x:Ext w w'):Vx B w' v l F q:=Zv.ext h x
theorem Vx.upd(h:Vx B w v l F q){fs:List Nat}(x:Upd w w' fs)(hn:∀k,k ∈ F->k ∈ fs->False):Vx B w' v l F q:=by
 obtain⟨s,h,rfl⟩:=h
 exact⟨s,h.upd x hn,rfl⟩
end
def Su(B:Nat)(w:World)(v:Value)(l:List Bool)(F:List Nat)(q:Int):Prop:=Own B 4 1 w v ((wF q l.length).map .bool)/\F=Be [v]
section
variable {B B':Nat} {w w':World} {v:Value} {l:List Bool} {F:List Nat} {q:Int}
theorem Su.ext(h:Su B w v l F q)(x:Ext w w'):Su B w' v l F q:=⟨Own.ext h.1 x,h.2⟩
theorem Su.upd(h:Su B w v l F q){fs:List Nat}(x:Upd w w' fs)(hn:∀k,k ∈ F->k ∈ fs->False):Su B w' v l F q:=by
 obtain⟨h,rfl⟩:=h
 exact⟨Own.upd h x (fun k e hk=>hn k (by simp[Be,e]) hk),rfl⟩
theorem Lk.upd(h:Lk B w v l F){fs:List Nat}(x:Upd w w' fs)(hn:∀k,k ∈ F->k ∈ fs->False):Lk B w' v l F:=by
 obtain⟨h,rfl⟩:=h
 exact⟨Own.upd h x (fun k e hk=>hn k (by simp[Be,e]) hk),rfl⟩
end
theorem Tf.upd{B:Nat}{w w':World}{v:Value}{d:Ez}{F:List Nat}{q:Int}(h:Tf B w v d F q){fs:List Nat}(x:Upd w w' fs)(hn:∀k,k ∈ F->k ∈ fs->False):Tf B w' v d F q:=by
 obtain⟨t0,t1,s0,s1,e,h0,h1,rfl⟩:=h
 exact⟨t0,t1,s0,s1,e,h0.upd x (fun k h=>hn k (List.mem_append_left _ h)),h1.upd x (fun k h=>hn k (List.mem_append_right _ h)),rfl⟩
def Qm(B:Nat)(w:World)(v:Value)(s:It)(F:List Nat)(q:Int):Prop:=∀w' fs,Upd w w' fs->(∀k,k ∈ F->k ∈ fs->False)->Yv B w' v s F q
section
variable {B B':Nat} {w w':World} {v:Value} {s:It} {F:List Nat} {q:Int}
theorem Qm.upd(h:Qm B w v s F q){fs:List Nat}(x:Upd w w' fs)(hn:∀k,k ∈ F->k ∈ fs->False):Qm B w' v s F q:=fun w2 gs y hy=>h w2 (fs++gs) ((x.more (fun a ha=>List.mem_append_left _ ha)).trans (y.more (fun a ha=>List.mem_append_right _ ha))) (fun a ha hb=>(List.mem_append.1 hb).elim (hn a ha) (hy a ha))
theorem Qm.ext(h:Qm B w v s F q)(x:Ext w w'):Qm B w' v s F q:=h.upd (x.upd []) (fun _ _ h=>by cases h)
end
def dI(d:Jg):Nat:=pN d.A+pN d.B
def aT(B:Nat)(w:World)(v:Value)(d:Jg)(F:List Nat)(q:Int):Prop:=∃p0:List Value,∃p1:List Value,∃F0:List Nat,∃F1:List Nat,v=.agg (p0++(p1++[])).toArray/\p0.length=2/\p1.length=2/\Tf B w (.agg p0.toArray) d.A F0 (q)/\Tf B w (.agg p1.toArray) d.B F1 (q+(pN d.A:Nat))/\F=F0++F1
section
variable {B B':Nat} {w w':World} {v:Value} {d:Jg} {F:List Nat} {q:Int}
theorem aT.ext(h:aT B w v d F q)(x:Ext w w'):aT B w' v d F q:=by
 obtain⟨p0,p1,F0,F1,e,l0,l1,m0,m1,hF⟩:=h
 exact⟨p0,p1,F0,F1,e,l0,l1,m0.ext x,m1.ext x,hF⟩
theorem aT.upd(h:aT B w v d F q){fs:List Nat}(x:Upd w w' fs)(hn:∀k,k ∈ F->k ∈ fs->False):aT B w' v d F q:=by
 obtain⟨p0,p1,F0,F1,e,l0,l1,m0,m1,rfl⟩:=h
 exact⟨p0,p1,F0,F1,e,l0,l1,m0.upd x (fun k h=>hn k (by simp[h])),m1.upd x (fun k h=>hn k (by simp[h])),rfl⟩
theorem Hm.upd(h:Hm B w v d F){fs:List Nat}(x:Upd w w' fs)(hn:∀k,k ∈ F->k ∈ fs->False):Hm B w' v d F:=by
 obtain⟨p0,p1,F0,F1,e,l0,l1,g0,g1,hdj,rfl⟩:=h
 exact⟨p0,p1,F0,F1,e,l0,l1,g0.upd x (fun k h=>hn k (by simp[h])),g1.upd x (fun k h=>hn k (by simp[h])),hdj,rfl⟩
end
def Sv(d:Di):Nat:=fL d.Seen
def Tx(B:Nat)(w:World)(v:Value)(d:Di)(F:List Nat)(q:Int):Prop:=∃t3:Value,∃F3:List Nat,v=.agg ([Value.int .i64 d.Num]++([Value.int .i64 d.Base]++([Value.int .i64 d.Time]++([t3]++[])))).toArray/\Rc B w t3 d.Seen F3 (q)/\F=F3
section
variable {B B':Nat} {w w':World} {v:Value} {d:Di} {F:List Nat} {q:Int}
theorem Tx.ext(h:Tx B w v d F q)(x:Ext w w'):Tx B w' v d F q:=by
 obtain⟨t3,F3,e,m3,hF⟩:=h
 exact⟨t3,F3,e,m3.ext x,hF⟩
theorem Tx.upd(h:Tx B w v d F q){fs:List Nat}(x:Upd w w' fs)(hn:∀k,k ∈ F->k ∈ fs->False):Tx B w' v d F q:=by
 obtain⟨t3,F3,e,m3,hF⟩:=h
 obtain rfl:F3=F:=hF.symm
 exact⟨t3,F3,e,m3.upd x (fun k h=>hn k (by simp[h])),rfl⟩
theorem Mc.upd(h:Mc B w v d F){fs:List Nat}(x:Upd w w' fs)(hn:∀k,k ∈ F->k ∈ fs->False):Mc B w' v d F:=by
 obtain⟨t3,F3,e,g3,hdj,hF⟩:=h
 obtain rfl:F3=F:=hF.symm
 exact⟨t3,F3,e,g3.upd x (fun k h=>hn k (by simp[h])),hdj,rfl⟩
end
def lC(d:Df):Nat:=qY d.Entries
def Vy(B:Nat)(w:World)(v:Value)(d:Df)(F:List Nat)(q:Int):Prop:=∃t2:Value,∃F2:List Nat,v=.agg ([Value.int .i64 d.Base]++([Value.int .i64 d.Time]++([t2]++[]))).toArray/\Ql B w t2 d.Entries F2 (q)/\F=F2
section
variable {B B':Nat} {w w':World} {v:Value} {d:Df} {F:List Nat} {q:Int}
theorem Vy.ext(h:Vy B w v d F q)(x:Ext w w'):Vy B w' v d F q:=by
 obtain⟨t2,F2,e,m2,hF⟩:=h
 exact⟨t2,F2,e,m2.ext x,hF⟩
theorem Vy.upd(h:Vy B w v d F q){fs:List Nat}(x:Upd w w' fs)(hn:∀k,k ∈ F->k ∈ fs->False):Vy B w' v d F q:=by
 obtain⟨t2,F2,e,m2,hF⟩:=h
 obtain rfl:F2=F:=hF.symm
 exact⟨t2,F2,e,m2.upd x (fun k h=>hn k (by simp[h])),rfl⟩
theorem Mr.upd(h:Mr B w v d F){fs:List Nat}(x:Upd w w' fs)(hn:∀k,k ∈ F->k ∈ fs->False):Mr B w' v d F:=by
 obtain⟨t2,F2,e,g2,hdj,hF⟩:=h
 obtain rfl:F2=F:=hF.symm
 exact⟨t2,F2,e,g2.upd x (fun k h=>hn k (by simp[h])),hdj,rfl⟩
end
def Qn(d:El):Nat:=mQ d.Todo+vI d.Gots
def Ov(B:Nat)(w:World)(v:Value)(d:El)(F:List Nat)(q:Int):Prop:=∃t1:Value,∃t2:Value,∃F1:List Nat,∃F2:List Nat,v=.agg ([Value.int .i64 d.Id]++([t1]++([t2]++([Value.int .i64 d.Last]++[])))).toArray/\Sr B w t1 d.Todo F1 (q)/\Vw B w t2 d.Gots F2 (q+(mQ d.Todo:Nat))/\F=F1++F2
section
variable {B B':Nat} {w w':World} {v:Value} {d:El} {F:List Nat} {q:Int}
theorem Ov.ext(h:Ov B w v d F q)(x:Ext w w'):Ov B w' v d F q:=by
 obtain⟨t1,t2,F1,F2,e,m1,m2,hF⟩:=h
 exact⟨t1,t2,F1,F2,e,m1.ext x,m2.ext x,hF⟩
theorem Ov.upd(h:Ov B w v d F q){fs:List Nat}(x:Upd w w' fs)(hn:∀k,k ∈ F->k ∈ fs->False):Ov B w' v d F q:=by
 obtain⟨t1,t2,F1,F2,e,m1,m2,rfl⟩:=h
 exact⟨t1,t2,F1,F2,e,m1.upd x (fun k h=>hn k (by simp[h])),m2.upd x (fun k h=>hn k (by simp[h])),rfl⟩
theorem Db.upd(h:Db B w v d F){fs:List Nat}(x:Upd w w' fs)(hn:∀k,k ∈ F->k ∈ fs->False):Db B w' v d F:=by
 obtain⟨t1,t2,F1,F2,e,g1,g2,hdj,rfl⟩:=h
 exact⟨t1,t2,F1,F2,e,g1.upd x (fun k h=>hn k (by simp[h])),g2.upd x (fun k h=>hn k (by simp[h])),hdj,rfl⟩
end
def uJ(d:Lu):Nat:=qZ d.Flight+tP d.Cuts
def aU(B:Nat)(w:World)(v:Value)(d:Lu)(F:List Nat)(q:Int):Prop:=∃t0:Value,∃t1:Value,∃F0:List Nat,∃F1:List Nat,v=.agg ([t0]++([t1]++[])).toArray/\Vx B w t0 d.Flight F0 (q)/\Ss B w t1 d.Cuts F1 (q+(qZ d.Flight:Nat))/\F=F0++F1
section
variable {B B':Nat} {w w':World} {v:Value} {d:Lu} {F:List Nat} {q:Int}
theorem aU.ext(h:aU B w v d F q)(x:Ext w w'):aU B w' v d F q:=by
 obtain⟨t0,t1,F0,F1,e,m0,m1,hF⟩:=h
 exact⟨t0,t1,F0,F1,e,m0.ext x,m1.ext x,hF⟩
theorem aU.upd(h:aU B w v d F q){fs:List Nat}(x:Upd w w' fs)(hn:∀k,k ∈ F->k ∈ fs->False):aU B w' v d F q:=by
 obtain⟨t0,t1,F0,F1,e,m0,m1,rfl⟩:=h
 exact⟨t0,t1,F0,F1,e,m0.upd x (fun k h=>hn k (by simp[h])),m1.upd x (fun k h=>hn k (by simp[h])),rfl⟩
theorem Im.upd(h:Im B w v d F){fs:List Nat}(x:Upd w w' fs)(hn:∀k,k ∈ F->k ∈ fs->False):Im B w' v d F:=by
 obtain⟨t0,t1,F0,F1,e,g0,g1,hdj,rfl⟩:=h
 exact⟨t0,t1,F0,F1,e,g0.upd x (fun k h=>hn k (by simp[h])),g1.upd x (fun k h=>hn k (by simp[h])),hdj,rfl⟩
end
def Ym(d:Ap):Nat:=dI d.Two+Sv d.Head+Sv d.Next+lC d.Book+fL d.Seen+vH d.Owe
def aV(B:Nat)(w:World)(v:Value)(d:Ap)(F:List Nat)(q:Int):Prop:=∃p0:List Value,∃p1:List Value,∃p2:List Value,∃p4:List Value,∃t5:Value,∃t7:Value,∃F0:List Nat,∃F1:List Nat,∃F2:List Nat,∃F4:List Nat,∃F5:List Nat,∃F7:List Nat,v=.agg (p0++(p1++(p2++([Value.bool d.More]++(p4++([t5]++([Value.int .i64 d.Durable]++([t7]++[])))))))).toArray/\p0.length=4/\p1.length=4/\p2.length=4/\p4.length=3/\aT B w (.agg p0.toArray) d.Two F0 (q)/\Tx B w (.agg p1.toArray) d.Head F1 (q+(dI d.Two:Nat))/\Tx B w (.agg p2.toArray) d.Next F2 (q+(dI d.Two:Nat)+(Sv d.Head:Nat))/\Vy B w (.agg p4.toArray) d.Book F4 (q+(dI d.Two:Nat)+(Sv d.Head:Nat)+(Sv d.Next:Nat))/\Rc B w t5 d.Seen F5 (q+(dI d.Two:Nat)+(Sv d.Head:Nat)+(Sv d.Next:Nat)+(lC d.Book:Nat))/\Vv B w t7 d.Owe F7 (q+(dI d.Two:Nat)+(Sv d.Head:Nat)+(Sv d.Next:Nat)+(lC d.Book:Nat)+(fL d.Seen:Nat))/\F=F0++F1++F2++F4++F5++F7
section
variable {B B':Nat} {w w':World} {v:Value} {d:Ap} {F:List Nat} {q:Int}
theorem aV.ext(h:aV B w v d F q)(x:Ext w w'):aV B w' v d F q:=by
 obtain⟨p0,p1,p2,p4,t5,t7,F0,F1,F2,F4,F5,F7,e,l0,l1,l2,l4,m0,m1,m2,m4,m5,m7,hF⟩:=h
 exact⟨p0,p1,p2,p4,t5,t7,F0,F1,F2,F4,F5,F7,e,l0,l1,l2,l4,m0.ext x,m1.ext x,m2.ext x,m4.ext x,m5.ext x,m7.ext x,hF⟩
theorem aV.upd(h:aV B w v d F q){fs:List Nat}(x:Upd w w' fs)(hn:∀k,k ∈ F->k ∈ fs->False):aV B w' v d F q:=by
 obtain⟨p0,p1,p2,p4,t5,t7,F0,F1,F2,F4,F5,F7,e,l0,l1,l2,l4,m0,m1,m2,m4,m5,m7,rfl⟩:=h
 exact⟨p0,p1,p2,p4,t5,t7,F0,F1,F2,F4,F5,F7,e,l0,l1,l2,l4,m0.upd x (fun k h=>hn k (by simp[h])),m1.upd x (fun k h=>hn k (by simp[h])),m2.upd x (fun k h=>hn k (by simp[h])),m4.upd x (fun k h=>hn k (by simp[h])),m5.upd x (fun k h=>hn k (by simp[h])),m7.upd x (fun k h=>hn k (by simp[h])),rfl⟩
theorem Io.upd(h:Io B w v d F){fs:List Nat}(x:Upd w w' fs)(hn:∀k,k ∈ F->k ∈ fs->False):Io B w' v d F:=by
 obtain⟨p0,p1,p2,p4,t5,t7,F0,F1,F2,F4,F5,F7,e,l0,l1,l2,l4,g0,g1,g2,g4,g5,g7,hdj,rfl⟩:=h
 exact⟨p0,p1,p2,p4,t5,t7,F0,F1,F2,F4,F5,F7,e,l0,l1,l2,l4,g0.upd x (fun k h=>hn k (by simp[h])),g1.upd x (fun k h=>hn k (by simp[h])),g2.upd x (fun k h=>hn k (by simp[h])),g4.upd x (fun k h=>hn k (by simp[h])),g5.upd x (fun k h=>hn k (by simp[h])),g7.upd x (fun k h=>hn k (by simp[h])),hdj,rfl⟩
end
def Ur(B:Nat)(w:World)(v:Value)(d:Fb)(F:List Nat)(q:Int):Prop:=∃p0:List Value,∃p1:List Value,∃p2:List Value,∃p3:List Value,∃p4:List Value,∃p5:List Value,∃p6:List Value,∃t7:Value,∃t8:Value,∃F0:List Nat,∃F1:List Nat,∃F2:List Nat,∃F3:List Nat,∃F4:List Nat,∃F5:List Nat,∃F6:List Nat,∃F7:List Nat,∃F8:List Nat,v=.agg (p0++(p1++(p2++(p3++(p4++(p5++(p6++([t7]++([t8]++[]))))))))).toArray/\p0.length=19/\p1.length=12/\p2.length=15/\p3.length=15/\p4.length=4/\p5.length=4/\p6.length=2/\aV B w (.agg p0.toArray) d.Log F0 (q)/\Qm B w (.agg p1.toArray) d.Store F1 (q+(Ym d.Log:Nat))/\Qx B w (.agg p2.toArray) d.Left F2 (q+(Ym d.Log:Nat)+(Vo d.Store:Nat))/\Qx B w (.agg p3.toArray) d.Right F3 (q+(Ym d.Log:Nat)+(Vo d.Store:Nat)+(Lo d.Left:Nat))/\Ov B w (.agg p4.toArray) d.Ann F4 (q+(Ym d.Log:Nat)+(Vo d.Store:Nat)+(Lo d.Left:Nat)+(Lo d.Right:Nat))/\Ov B w (.agg p5.toArray) d.Bob F5 (q+(Ym d.Log:Nat)+(Vo d.Store:Nat)+(Lo d.Left:Nat)+(Lo d.Right:Nat)+(Qn d.Ann:Nat))/\aU B w (.agg p6.toArray) d.Net F6 (q+(Ym d.Log:Nat)+(Vo d.Store:Nat)+(Lo d.Left:Nat)+(Lo d.Right:Nat)+(Qn d.Ann:Nat)+(Qn d.Bob:Nat))/\Qk B w t7 d.Clocks F7 (q+(Ym d.Log:Nat)+(Vo d.Store:Nat)+(Lo d.Left:Nat)+(Lo d.Right:Nat)+(Qn d.Ann:Nat)+(Qn d.Bob:Nat)+(uJ d.Net:Nat))/\Su B w t8 d.Up F8 (q+(Ym d.Log:Nat)+(Vo d.Store:Nat)+(Lo d.Left:Nat)+(Lo d.Right:Nat)+(Qn d.Ann:Nat)+(Qn d.Bob:Nat)+(uJ d.Net:Nat)+(qX d.Clocks:Nat))/\F=F0++F1++F2++F3++F4++F5++F6++F7++F8
section
variable {B B':Nat} {w w':World} {v:Value} {d:Fb} {F:List Nat} {q:Int}
theorem Ur.ext(h:Ur B w v d F q)(x:Ext w w'):Ur B w' v d F q:=by
 obtain⟨p0,p1,p2,p3,p4,p5,p6,t7,t8,F0,F1,F2,F3,F4,F5,F6,F7,F8,e,l0,l1,l2,l3,l4,l5,l6,m0,m1,m2,m3,m4,m5,m6,m7,m8,hF⟩:=h
 exact⟨p0,p1,p2,p3,p4,p5,p6,t7,t8,F0,F1,F2,F3,F4,F5,F6,F7,F8,e,l0,l1,l2,l3,l4,l5,l6,m0.ext x,m1.ext x,m2.ext x,m3.ext x,m4.ext x,m5.ext x,m6.ext x,m7.ext x,m8.ext x,hF⟩
theorem Ur.upd(h:Ur B w v d F q){fs:List Nat}(x:Upd w w' fs)(hn:∀k,k ∈ F->k ∈ fs->False):Ur B w' v d F q:=by
 obtain⟨p0,p1,p2,p3,p4,p5,p6,t7,t8,F0,F1,F2,F3,F4,F5,F6,F7,F8,e,l0,l1,l2,l3,l4,l5,l6,m0,m1,m2,m3,m4,m5,m6,m7,m8,rfl⟩:=h
 exact⟨p0,p1,p2,p3,p4,p5,p6,t7,t8,F0,F1,F2,F3,F4,F5,F6,F7,F8,e,l0,l1,l2,l3,l4,l5,l6,m0.upd x (fun k h=>hn k (by simp[h])),m1.upd x (fun k h=>hn k (by simp[h])),m2.upd x (fun k h=>hn k (by simp[h])),m3.upd x (fun k h=>hn k (by simp[h])),m4.upd x (fun k h=>hn k (by simp[h])),m5.upd x (fun k h=>hn k (by simp[h])),m6.upd x (fun k h=>hn k (by simp[h])),m7.upd x (fun k h=>hn k (by simp[h])),m8.upd x (fun k h=>hn k (by simp[h])),rfl⟩
theorem Gz.upd(h:Gz B w v d F){fs:List Nat}(x:Upd w w' fs)(hn:∀k,k ∈ F->k ∈ fs->False):Gz B w' v d F:=by
 obtain⟨p0,p1,p2,p3,p4,p5,p6,t7,t8,F0,F1,F2,F3,F4,F5,F6,F7,F8,e,l0,l1,l2,l3,l4,l5,l6,g0,g1,g2,g3,g4,g5,g6,g7,g8,hdj,rfl⟩:=h
 exact⟨p0,p1,p2,p3,p4,p5,p6,t7,t8,F0,F1,F2,F3,F4,F5,F6,F7,F8,e,l0,l1,l2,l3,l4,l5,l6,g0.upd x (fun k h=>hn k (by simp[h])),g1.upd x (fun k h=>hn k (by simp[h])),g2.upd x (fun k h=>hn k (by simp[h])),g3.upd x (fun k h=>hn k (by simp[h])),g4.upd x (fun k h=>hn k (by simp[h])),g5.upd x (fun k h=>hn k (by simp[h])),g6.upd x (fun k h=>hn k (by simp[h])),g7.upd x (fun k h=>hn k (by simp[h])),g8.upd x (fun k h=>hn k (by simp[h])),hdj,rfl⟩
end
end Go.Proofs.YtkpmbocbbgocbaaGreat
