/- Cl0 En LM Sx Bk0 Eq0. -/
import Derived.Test.YtkpmbocbbgocbaaGreatQB1
import Derived.Test.YtkpmbocbbgocbaaGreatQB0
set_option linter.unusedSimpArgs false
set_option linter.unusedVariables false
set_option maxHeartbeats 8000000
set_option maxRecDepth 100000
namespace Go.Proofs.YtkpmbocbbgocbaaGreat
open Go.RowKit Go.G8
def Hj(w:Da):Bool:=if w.Kind=4 then opZ w.Op&&inb w.Key 0 9 else(decide (w.Kind=1)||(decide (w.Kind=2)||decide (w.Kind=3)))&&(Nn w.Op&&(decide (w.Op.Kind=w.Kind)&&decide (w.Key=0)))
def Ti(k:Int):Int:=if k=1 then 1 else if k=2 then 2 else if k=3 then 3 else 0
def Mm(h v:Int):Bool:=if h=0 then decide (v=0) else decide (h=1)&&inb v 0 999
def Me(w:Da)(g:Jd)(seq last:Int):Bool:=decide (g.Seq=seq)&&(inb g.Index last 2000&&(if w.Kind=4 then Mm g.Has g.Value else decide (last<g.Index)&&(decide (g.Has=0)&&decide (g.Value=0))))
def Ny(todo:List Da)(gots:List Jd):Nat->Option Int
 | 0=>some 0
 | k+1=>match Ny todo gots k with
  | none=>none
  | some last=>match todo[k]?,gots[k]? with
   | some w,some g=>if Me w g (k+1) last then some g.Index else none
   | _,_=>none
theorem Yh{todo:List Da}{gots:List Jd}{k:Nat}(h:Ny todo gots k=none):∀j,Ny todo gots (k+j)=none
 | 0=>h
 | j+1=>by rw[show k+(j+1)=(k+j)+1 by omega,Ny,Yh h j]
theorem Tj{todo:List Da}{gots:List Jd}{k:Nat}{last:Int}{w:Da}{g:Jd}(h:Ny todo gots k=some last)(hw:todo[k]?=some w)(hg:gots[k]?=some g):Ny todo gots (k+1)=if Me w g (k+1) last then some g.Index else none:=by
 rw[Ny,h,hw,hg]
def Fo(l:List Da):Bool:=l.all Hj&&decide (l.length<=12)
def Dm(c:El):Bool:=(decide (c.Id=4)||decide (c.Id=5))&&(Fo c.Todo&&(decide (c.Gots.length<=c.Todo.length)&&decide (Ny c.Todo c.Gots c.Gots.length=some c.Last)))
theorem Yi{c:El}{k:Nat}{last:Int}{w:Da}{g:Jd}(h:Ny c.Todo c.Gots k=some last)(hw:c.Todo[k]?=some w)(hg:c.Gots[k]?=some g)(hn:Me w g (k+1) last=false):Dm c=false:=by
 have h1:Ny c.Todo c.Gots (k+1)=none:=by rw[Tj h hw hg,hn];rfl
 have h2:=Yh h1 (c.Gots.length - (k+1))
 rw[show k+1+(c.Gots.length - (k+1))=c.Gots.length by have:=(List.getElem?_eq_some_iff.1 hg).1;omega] at h2
 simp[Dm,h2]
def Ng(m:Qs):Bool:=inb m.From 0 5&&(inb m.To 0 5&&(decide (m.From≠m.To)&&(decide (0<m.Row.length)&&Ik m.Row)))
def Il(x y:Gf):Bool:=decide (x.A<y.A)||(decide (x.A=y.A)&&decide (x.B<y.B))
def Ri(l:List Gf)(i:Nat):Prop:=∀d,l[i]?=some d->inb d.A 0 5=true/\inb d.B 0 5=true/\d.A<d.B/\(∀e,0<i->l[i - 1]?=some e->Il e d=true)
def eR(l:List Gf):Prop:=∀i,i<l.length->Ri l i
open Classical in
noncomputable def Xn(l:List Gf):Bool:=decide (eR l)
theorem Tk{l:List Gf}(h:eR l):Xn l=true:=by simp[Xn,h]
theorem Iy{l:List Gf}(h:¬ eR l):Xn l=false:=by simp[Xn,h]
theorem Ri.next{l:List Gf}{k:Nat}{d:Gf}(hd:l[k]?=some d)(h:∀i,i<k->Ri l i)(h1:inb d.A 0 5=true)(h2:inb d.B 0 5=true)(h3:d.A<d.B)(h4:∀e,0<k->l[k - 1]?=some e->Il e d=true):∀i,i<k+1->Ri l i:=by
 intro i hi
 by_cases hik:i=k
 .
  subst hik
  intro d' hd'
  rw[hd] at hd'
  obtain rfl:=Option.some.inj hd'
  exact⟨h1,h2,h3,h4⟩
 exact h i oM
noncomputable def Gh(n:Lu):Bool:=decide (n.Flight.length<=60)&&(decide (n.Cuts.length<=15)&&(n.Flight.all Ng&&Xn n.Cuts))
def He(l:List Int):Bool:=decide (l.length=6)&&l.all Ea
theorem pV{l:List Qs}{k:Nat}{r:Gn}(h:(Ji l)[k]?=some r):∃d,l[k]?=some d/\r=([d.From,d.To],d.Row):=by
 simp only[Ji,List.getElem?_map,Option.map_eq_some_iff] at h
 obtain⟨x,hx,rfl⟩:=h
 exact⟨x,hx,rfl⟩
theorem Ck.letters{w:World}{v:Value}{l:List Qs}(h:Ck 2 w v (Ji l)):∃a cap,v=.slice a l.length cap/\l.length<=cap/\cap<=maxLen /\
  ∀i,i<l.length->∃d b off sa sn sc,l[i]?=some d/\a=some ⟨b,off,none⟩/\b<w.heap.size/\w.cell? ⟨b,off+i*3,none⟩=some (.int .i64 d.From)/\w.cell? ⟨b,off+i*3+1,none⟩=some (.int .i64 d.To)/\w.cell? ⟨b,off+i*3+2,none⟩=some (.slice sa sn sc)/\Aj 1 w (.slice sa sn sc) d.Row:=by
 obtain⟨a,cap,rfl,h1,h2,h3⟩:=h.open_
 have hl:(Ji l).length=l.length:=by simp[Ji]
 rw[hl] at h1 h3 ⊢
 refine⟨a,cap,rfl,h1,h2,fun i hi=>?_⟩
 obtain⟨r,b,off,s,hr,ha,hb,hci,hc,hin⟩:=h3 i hi
 obtain⟨d,hd,rfl⟩:=pV hr
 obtain⟨sa,sn,sc,rfl⟩:=hin.shape
 have h0:=hci 0 d.From rfl
 have h1:=hci 1 d.To rfl
 simp only[Nat.add_zero,Nat.reduceAdd] at h0 h1 hc
 exact⟨d,b,off,sa,sn,sc,hd,ha,hb,h0,h1,hc,hin⟩
theorem nS(w:World)(Ae:Int)(Ew:Int):Calls Tryz.prog 351 #[.int .i64 Ae,.int .i64 Ew] w (fun e w'=>e=.returned (.bool (Mm Ae Ew))/\w=w'):=by
 have rr:=Lc
 go_enter Tryz.func351,Tryz.ntmps351
 go_wp2_with (first|(go_at_call 346;refine(Sa _ _  ).mono ?_;rintro e wa ⟨rfl,rfl⟩))
 all_goals
  go_ret
  refine⟨by first|rfl|(simp[Mm, *];done)|(simp[Mm, *];omega)|(simp_all [Mm,bq,bn];done)|(simp_all [Mm,bq,bn];omega),by rfl⟩
theorem tD(w:World)(Ae:Int):Calls Tryz.prog 323 #[.int .i64 Ae] w (fun e w'=>e=.returned (.int .i64 (Ti Ae))/\w=w'):=by
 have rr:=Lc
 go_enter Tryz.func323,Tryz.ntmps323
 go_wp2
 all_goals
  go_ret
  refine⟨by first|rfl|(simp[Ti, *];done)|(simp[Ti, *];omega)|(simp_all [Ti,bq,bn];done)|(simp_all [Ti,bq,bn];omega),by rfl⟩
theorem mL(w:World)(Ae:Int)(Ax:Int)(Cw:Int)(Ei:Int)(Bl:Int)(Bp:Int)(Bs:Int)(Ew:Int)(Mw:Int)(Qr:Int)(sE:Int)(sG:Int)(sH:Int):Calls Tryz.prog 271 #[.agg #[.int .i64 Ae,.int .i64 Ax,.int .i64 Cw,.int .i64 Ei,.int .i64 Bl,.int .i64 Bp,.int .i64 Bs],.agg #[.int .i64 Ew,.int .i64 Mw,.int .i64 Qr,.int .i64 sE],.int .i64 sG,.int .i64 sH] w (Cp w (.bool (Me (⟨Ae,⟨Ax,Cw,Ei,Bl,Bp⟩,Bs⟩:Da) (⟨Ew,Mw,Qr,sE⟩:Jd) sG sH))):=by
 have rr:=Lc
 go_enter Tryz.func271,Tryz.ntmps271
 go_wp2_with (first|(go_at_call 176;refine(Cf _ _ _ _  ).mono ?_;rintro e wa ⟨rfl,rfl⟩)|(go_at_call 351;refine(nS _ _ _  ).mono ?_;rintro e wb ⟨rfl,rfl⟩))
 all_goals
  go_ret
  refine⟨by first|rfl|(simp[Me,inb, *];done)|(simp[Me,inb, *];omega)|(simp_all [Me,inb,bq,bn];done)|(simp_all [Me,inb,bq,bn];omega),?_⟩
  exact xT
theorem iK(w:World)(Ae:Int)(Ax:Int)(Cw:Int)(Ei:Int)(Bl:Int)(Bp:Int)(Bs:Int)(Ew:Int)(Mw:Int)(Qr:Int)(sE:Int)(sG:Int)(sH:Int):Calls Tryz.prog 215 #[.agg #[.int .i64 Ae,.int .i64 Ax,.int .i64 Cw,.int .i64 Ei,.int .i64 Bl,.int .i64 Bp,.int .i64 Bs],.agg #[.int .i64 Ew,.int .i64 Mw,.int .i64 Qr,.int .i64 sE],.int .i64 sG,.int .i64 sH] w (Cp w (.bool (Me (⟨Ae,⟨Ax,Cw,Ei,Bl,Bp⟩,Bs⟩:Da) (⟨Ew,Mw,Qr,sE⟩:Jd) sG sH))):=by
 have rr:=Lc
 go_enter Tryz.func215,Tryz.ntmps215
 go_wp2_with (first|(go_at_call 303;refine(Dv _ _ _ _  ).mono ?_;rintro e wa ⟨rfl,rfl⟩)|(go_at_call 324;refine(cS _ _  ).mono ?_;rintro e wb ⟨rfl,rfl⟩))
 all_goals
  go_ret
  refine⟨by first|rfl|(simp[Me,Mm,inb, *];done)|(simp_all [Me,Mm,inb,bq,bn];split <;> omega)|(simp[Me,Mm,inb, *];done)|(simp[Me,Mm,inb, *];omega)|(simp_all [Me,Mm,inb,bq,bn];done)|(simp_all [Me,Mm,inb,bq,bn];omega),?_⟩
  exact xT
theorem iL(w:World)(Ae:Int)(Ax:Int)(Cw:Int)(Ei:Int)(Bl:Int)(Bp:Int)(Bs:Int):Calls Tryz.prog 167 #[.agg #[.int .i64 Ae,.int .i64 Ax,.int .i64 Cw,.int .i64 Ei,.int .i64 Bl,.int .i64 Bp,.int .i64 Bs]] w (Cp w (.bool (Hj (⟨Ae,⟨Ax,Cw,Ei,Bl,Bp⟩,Bs⟩:Da)))):=by
 have rr:=Lc
 go_enter Tryz.func167,Tryz.ntmps167
 go_wp2_with (first|(go_at_call 265;refine(pO _ _ _ _ _ _  ).mono ?_;rintro e wa ⟨rfl,hxa⟩;have hza:=hxa.size;(repeat (first|simp only[World.size_alloc] at hza|simp only[World.size_setCell] at hza|simp only[Hh] at hza));(try have hya_b_0:wb.heap.size<wa.heap.size:=oM);(try have hya_b_1:wb.heap.size+1<wa.heap.size:=oM);(try have hya_b_2:wb.heap.size+1+1<wa.heap.size:=oM);have Ka0:Blk wa (w.heap.size) 161 _:=Blk.ext (by exact Bv) hxa;(try simp only[Gp] at Ka0);have CKa0:=Ka0.cell;have FKa0:=Ka0.frozen;have hya__0:w.heap.size<wa.heap.size:=oM;(try(have Ka_b0:Blk wa (wb.heap.size) _ _:=Blk.ext (by exact Bv) hxa;(try simp only[Gp] at Ka_b0);have CKa_b0:=Ka_b0.cell;have FKa_b0:=Ka_b0.frozen));(try(have Ka_b1:Blk wa (wb.heap.size+1) _ _:=Blk.ext (by exact Bv) hxa;(try simp only[Gp] at Ka_b1);have CKa_b1:=Ka_b1.cell;have FKa_b1:=Ka_b1.frozen));(try(have Ka_b2:Blk wa (wb.heap.size+1+1) _ _:=Blk.ext (by exact Bv) hxa;(try simp only[Gp] at Ka_b2);have CKa_b2:=Ka_b2.cell;have FKa_b2:=Ka_b2.frozen)))|(go_at_call 266;refine(Wi _ _  ).mono ?_;rintro e wb ⟨rfl,rfl⟩))
 all_goals
  go_ret
  refine⟨by first|rfl|(simp[Hj,opZ, *];done)|(simp[Hj,opZ, *];omega)|(simp_all [Hj,opZ,bq,bn];done)|(simp_all [Hj,opZ,bq,bn];omega),?_⟩
  exact xT
def Uw(l:List Aq)(i:Nat):Prop:=∀d,l[i]?=some d->Dt d=true/\(∀e,0<i->l[i - 1]?=some e->d.Index=e.Index+1/\e.Time<=d.Time)
def Ro(l:List Aq):Prop:=l.length<=2000/\∀i,i<l.length->Uw l i
open Classical in
noncomputable def Jn(l:List Aq):Bool:=decide (Ro l)
theorem Qe{l:List Aq}(h:Ro l):Jn l=true:=by simp[Jn,h]
theorem Hi{l:List Aq}(h:¬ Ro l):Jn l=false:=by simp[Jn,h]
theorem bS{l:List Aq}:Jn l=true↔Ro l:=by simp[Jn]
theorem Uw.next{l:List Aq}{k:Nat}{d:Aq}(hd:l[k]?=some d)(h:∀i,i<k->Uw l i)(h1:Dt d=true)(h2:∀e,0<k->l[k - 1]?=some e->d.Index=e.Index+1/\e.Time<=d.Time):∀i,i<k+1->Uw l i:=by
 intro i hi
 by_cases hik:i=k
 .
  subst hik
  intro d' hd'
  rw[hd] at hd'
  obtain rfl:=Option.some.inj hd'
  exact⟨h1,h2⟩
 exact h i oM
theorem uS{p:Prop}(h:p:=by intro KQ hKQ;(repeat (first|go_big_quiet_skip|(go_big_quiet_want;first|(refine Br _ _ _ ?_ rfl rfl (fun wq hq=>?_) ?_;rotate_left;(focus((try have y0:=hq.cell x0);(try have y1:=hq.cell x1);(try have y2:=hq.cell x2);(try have y3:=hq.cell x3);(try have y4:=hq.cell x4);(try have y5:=hq.cell x5);(try have y6:=hq.cell x6);(try have y7:=hq.cell x7);(try have y8:=hq.cell x8);(try have z0:=hq.cell e0);(try have z1:=hq.cell e1);go_simp;first|done|rfl));(try simp only[Ab,Act.put]);go_big_quiet_on)|(go_big_quiet_op;first|go_big_quiet_on|(refine⟨_,fun _ _=>rfl,?_⟩;go_big_quiet_on)|(apply Exists.intro;refine⟨fun wq hq=>?_,?_⟩;(focus(exact Cv hq (by have c:=Nr wq d.Index d.Time d.Client d.Seq d.Op.Kind d.Op.A d.Op.B d.Op.C d.Op.D;rw[show Dt (⟨d.Index,d.Time,d.Client,d.Seq,⟨d.Op.Kind,d.Op.A,d.Op.B,d.Op.C,d.Op.D⟩⟩:Aq)=false from hp] at c;exact c)));go_big_quiet_on)))));exact wpQuiet_nil hKQ):p:=h
theorem eT{p:Prop}(h:p:=by intro KQ hKQ;(repeat (first|go_big_quiet_skip|(go_big_quiet_want;first|(refine Br _ _ _ ?_ rfl rfl (fun wq hq=>?_) ?_;rotate_left;(focus((try have y0:=hq.cell x0);(try have y1:=hq.cell x1);(try have y2:=hq.cell x2);(try have y3:=hq.cell x3);(try have y4:=hq.cell x4);(try have y5:=hq.cell x5);(try have y6:=hq.cell x6);(try have y7:=hq.cell x7);(try have y8:=hq.cell x8);(try have z0:=hq.cell e0);(try have z1:=hq.cell e1);go_simp;first|done|rfl));(try simp only[Ab,Act.put]);go_big_quiet_on)|(go_big_quiet_op;first|go_big_quiet_on|(refine⟨_,fun _ _=>rfl,?_⟩;go_big_quiet_on)|(apply Exists.intro;refine⟨fun wq hq=>?_,?_⟩;(focus(exact Cv hq (by have c:=Nr wq d.Index d.Time d.Client d.Seq d.Op.Kind d.Op.A d.Op.B d.Op.C d.Op.D;rw[show Dt (⟨d.Index,d.Time,d.Client,d.Seq,⟨d.Op.Kind,d.Op.A,d.Op.B,d.Op.C,d.Op.D⟩⟩:Aq)=true from hp] at c;exact c)));go_big_quiet_on)))));exact wpQuiet_nil hKQ):p:=h
theorem Ia(w:World)(Dl:Value)(Ad:List Aq)(Dk:Aj 9 w Dl (Ds Ad)):Calls Tryz.prog 377 #[Dl] w (Cp w (.bool (Jn Ad))):=by
 obtain⟨a,cap,rfl,hcap,hm,ha⟩:=Dk.recs (f:=Aq.ints) (fun _=>rfl) dC
 have HA:=Lib.hid ha
 clear ha
 unfold maxLen at hm
 by_cases h10:Ad.length<=2000
 rotate_left
 .
  go_enter Tryz.func377,Tryz.ntmps377
  go_wp2
  go_ret
  exact⟨congrArg (fun z=>Ending.returned (.bool z)) (Hi (fun hh=>h10 hh.1)).symm,Ext.refl _⟩
 go_enter Tryz.func377,Tryz.ntmps377
 go_wp2
 go_loopw [3] (fun i wr=>∃k:Nat,k<=Ad.length/\i=.int .i64 k/\Ext w wr/\Hid (∀i,i<k->Uw Ad i)) (fun i _=>Ad.length - (intOf i).toNat)
 case atStart=>exact⟨0,Nat.zero_le _,rfl,Ext.refl _,Lib.hid (fun i hi=>by omega)⟩
 case round =>
  obtain⟨k,hk,rfl,he,HO⟩:=hrel
  by_cases hlt:k<Ad.length
  .
   obtain⟨d,b1,o1,hd,rfl,hb1,c⟩:=HA.out k hlt
   have d0:=he.cell (c 0 _ dC rfl)
   have d1:=he.cell (c 1 _ dC rfl)
   have d2:=he.cell (c 2 _ dC rfl)
   have d3:=he.cell (c 3 _ dC rfl)
   have d4:=he.cell (c 4 _ dC rfl)
   have d5:=he.cell (c 5 _ dC rfl)
   have d6:=he.cell (c 6 _ dC rfl)
   have d7:=he.cell (c 7 _ dC rfl)
   have d8:=he.cell (c 8 _ dC rfl)
   simp only[Nat.add_zero] at d0
   have HD:=Lib.hid hd
   clear c hd
   cases hp:Dt d
   .
    have x0:=d0;have x1:=d1;have x2:=d2;have x3:=d3;have x4:=d4;have x5:=d5;have x6:=d6;have x7:=d7;have x8:=d8
    have hEW:Ext w wr:=he
    obtain⟨W,hW⟩:∃W,W=wr:=⟨_,rfl⟩
    (try rw[<-hW] at e0);(try rw[<-hW] at e1)
    rw[<-hW] at x0 x1 x2 x3 x4 x5 x6 x7 x8 hEW
    go_wp2
    rw[<-hW]
    clear hW
    refine rx0 uS fun w1 hx1=>?_
    go_wp2
    go_ret
    exact⟨congrArg (fun z=>Ending.returned (.bool z)) (Hi (fun hh=>by have:=(hh.2 k hlt d HD.out).1;rw[hp] at this;cases this)).symm,hEW.trans hx1⟩
   by_cases hk0:k=0
   .
    subst hk0
    (try simp only[Nat.zero_mul,Nat.add_zero] at d0 d1 d2 d3 d4 d5 d6 d7 d8)
    have x0:=d0;have x1:=d1;have x2:=d2;have x3:=d3;have x4:=d4;have x5:=d5;have x6:=d6;have x7:=d7;have x8:=d8
    have hEW:Ext w wr:=he
    obtain⟨W,hW⟩:∃W,W=wr:=⟨_,rfl⟩
    (try rw[<-hW] at e0);(try rw[<-hW] at e1)
    rw[<-hW] at x0 x1 x2 x3 x4 x5 x6 x7 x8 hEW
    go_wp2
    rw[<-hW]
    clear hW
    refine rx0 eT fun w1 hx1=>?_
    go_wp2
    go_roundw
    case rel=>exact⟨0+1,by omega,by go_num,hEW.trans hx1,Lib.hid (Uw.next HD.out HO.out hp (fun e' hh hl=>by omega))⟩
    case measure=>simp[intOf];omega
   obtain⟨e,b2,o2,hde,hbo,_,c⟩:=HA.out (k - 1) oM
   obtain⟨rfl,rfl⟩:b1=b2/\o1=o2:=by simpa using hbo
   have e0:=he.cell (c 0 _ dC rfl)
   have e1:=he.cell (c 1 _ dC rfl)
   simp only[Nat.add_zero] at e0
   have HE:=Lib.hid hde
   obtain⟨b01,b02,_,_⟩:=Uu (HO.out (k - 1) oM e hde).1
   clear c hde hbo
   have hk1:decide (0<k)=true:=by simp;omega
   by_cases hi:d.Index=e.Index+1
   rotate_left
   .
    have hi':(d.Index != e.Index+1)=true:=by simp[hi]
    clear hi
    have x0:=d0;have x1:=d1;have x2:=d2;have x3:=d3;have x4:=d4;have x5:=d5;have x6:=d6;have x7:=d7;have x8:=d8
    have hEW:Ext w wr:=he
    obtain⟨W,hW⟩:∃W,W=wr:=⟨_,rfl⟩
    (try rw[<-hW] at e0);(try rw[<-hW] at e1)
    rw[<-hW] at x0 x1 x2 x3 x4 x5 x6 x7 x8 hEW
    go_wp2
    rw[<-hW]
    clear hW
    refine rx0 eT fun w1 hx1=>?_
    go_wp2
    go_ret
    exact⟨congrArg (fun z=>Ending.returned (.bool z)) (Hi (fun hh=>by have:=((hh.2 k hlt d HD.out).2 e oM HE.out).1;simp[this] at hi')).symm,hEW.trans hx1⟩
   have hi':(d.Index != e.Index+1)=false:=by simp[hi]
   have HI:=Lib.hid hi
   clear hi
   by_cases ht:d.Time<e.Time
   .
    have ht':decide (d.Time<e.Time)=true:=by simpa using ht
    have x0:=d0;have x1:=d1;have x2:=d2;have x3:=d3;have x4:=d4;have x5:=d5;have x6:=d6;have x7:=d7;have x8:=d8
    have hEW:Ext w wr:=he
    obtain⟨W,hW⟩:∃W,W=wr:=⟨_,rfl⟩
    (try rw[<-hW] at e0);(try rw[<-hW] at e1)
    rw[<-hW] at x0 x1 x2 x3 x4 x5 x6 x7 x8 hEW
    go_wp2
    rw[<-hW]
    clear hW
    refine rx0 eT fun w1 hx1=>?_
    go_wp2
    go_ret
    exact⟨congrArg (fun z=>Ending.returned (.bool z)) (Hi (fun hh=>by have:=((hh.2 k hlt d HD.out).2 e oM HE.out).2;omega)).symm,hEW.trans hx1⟩
   have ht':decide (d.Time<e.Time)=false:=by simpa using ht
   have x0:=d0;have x1:=d1;have x2:=d2;have x3:=d3;have x4:=d4;have x5:=d5;have x6:=d6;have x7:=d7;have x8:=d8
   have hEW:Ext w wr:=he
   obtain⟨W,hW⟩:∃W,W=wr:=⟨_,rfl⟩
   (try rw[<-hW] at e0);(try rw[<-hW] at e1)
   rw[<-hW] at x0 x1 x2 x3 x4 x5 x6 x7 x8 hEW
   go_wp2
   rw[<-hW]
   clear hW
   refine rx0 eT fun w1 hx1=>?_
   go_wp2
   go_roundw
   case rel=>exact⟨k+1,by omega,by go_num,hEW.trans hx1,Lib.hid (Uw.next HD.out HO.out hp (fun e' hh hl=>by rw[HE.out] at hl;obtain rfl:=Option.some.inj hl;exact⟨HI.out,by omega⟩))⟩
   case measure=>simp[intOf];omega
  obtain rfl:k=Ad.length:=by omega
  go_wp2
  go_ret
  exact⟨congrArg (fun z=>Ending.returned (.bool z)) (Qe ⟨h10,HO.out⟩).symm,he⟩
theorem uT{p:Prop}(h:p:=by intro KQ hKQ;(repeat (first|go_big_quiet_skip|(go_big_quiet_want;first|(refine Br _ _ _ ?_ rfl rfl (fun wq hq=>?_) ?_;rotate_left;(focus((try have y0:=hq.cell x0);(try have y1:=hq.cell x1);(try have y2:=hq.cell x2);(try have y3:=hq.cell x3);(try have y4:=hq.cell x4);(try have y5:=hq.cell x5);(try have y6:=hq.cell x6);(try have y7:=hq.cell x7);(try have y8:=hq.cell x8);(try have z0:=hq.cell e0);(try have z1:=hq.cell e1);go_simp;first|done|rfl));(try simp only[Ab,Act.put]);go_big_quiet_on)|(go_big_quiet_op;first|go_big_quiet_on|(refine⟨_,fun _ _=>rfl,?_⟩;go_big_quiet_on)|(apply Exists.intro;refine⟨fun wq hq=>?_,?_⟩;(focus(exact Cv hq (by have c:=Ns wq d.Index d.Time d.Client d.Seq d.Op.Kind d.Op.A d.Op.B d.Op.C d.Op.D;rw[show Dt (⟨d.Index,d.Time,d.Client,d.Seq,⟨d.Op.Kind,d.Op.A,d.Op.B,d.Op.C,d.Op.D⟩⟩:Aq)=false from hp] at c;exact c)));go_big_quiet_on)))));exact wpQuiet_nil hKQ):p:=h
theorem eV{p:Prop}(h:p:=by intro KQ hKQ;(repeat (first|go_big_quiet_skip|(go_big_quiet_want;first|(refine Br _ _ _ ?_ rfl rfl (fun wq hq=>?_) ?_;rotate_left;(focus((try have y0:=hq.cell x0);(try have y1:=hq.cell x1);(try have y2:=hq.cell x2);(try have y3:=hq.cell x3);(try have y4:=hq.cell x4);(try have y5:=hq.cell x5);(try have y6:=hq.cell x6);(try have y7:=hq.cell x7);(try have y8:=hq.cell x8);(try have z0:=hq.cell e0);(try have z1:=hq.cell e1);go_simp;first|done|rfl));(try simp only[Ab,Act.put]);go_big_quiet_on)|(go_big_quiet_op;first|go_big_quiet_on|(refine⟨_,fun _ _=>rfl,?_⟩;go_big_quiet_on)|(apply Exists.intro;refine⟨fun wq hq=>?_,?_⟩;(focus(exact Cv hq (by have c:=Ns wq d.Index d.Time d.Client d.Seq d.Op.Kind d.Op.A d.Op.B d.Op.C d.Op.D;rw[show Dt (⟨d.Index,d.Time,d.Client,d.Seq,⟨d.Op.Kind,d.Op.A,d.Op.B,d.Op.C,d.Op.D⟩⟩:Aq)=true from hp] at c;exact c)));go_big_quiet_on)))));exact wpQuiet_nil hKQ):p:=h
theorem Jb(w:World)(Dl:Value)(Ad:List Aq)(Dk:Aj 9 w Dl (Ds Ad)):Calls Tryz.prog 359 #[Dl] w (Cp w (.bool (Jn Ad))):=by
 obtain⟨a,cap,rfl,hcap,hm,ha⟩:=Dk.recs (f:=Aq.ints) (fun _=>rfl) dC
 have HA:=Lib.hid ha
 clear ha
 unfold maxLen at hm
 by_cases h10:Ad.length<=2000
 rotate_left
 .
  go_enter Tryz.func359,Tryz.ntmps359
  go_wp2
  go_ret
  exact⟨congrArg (fun z=>Ending.returned (.bool z)) (Hi (fun hh=>h10 hh.1)).symm,Ext.refl _⟩
 go_enter Tryz.func359,Tryz.ntmps359
 go_wp2
 go_loopw [10] (fun i wr=>∃k:Nat,k<=Ad.length/\i=.int .i64 k/\Ext w wr/\Hid (∀i,i<k->Uw Ad i)) (fun i _=>Ad.length - (intOf i).toNat)
 case atStart=>exact⟨0,Nat.zero_le _,rfl,Ext.refl _,Lib.hid (fun i hi=>by omega)⟩
 case round =>
  obtain⟨k,hk,rfl,he,HO⟩:=hrel
  by_cases hlt:k<Ad.length
  .
   obtain⟨d,b1,o1,hd,rfl,hb1,c⟩:=HA.out k hlt
   have d0:=he.cell (c 0 _ dC rfl)
   have d1:=he.cell (c 1 _ dC rfl)
   have d2:=he.cell (c 2 _ dC rfl)
   have d3:=he.cell (c 3 _ dC rfl)
   have d4:=he.cell (c 4 _ dC rfl)
   have d5:=he.cell (c 5 _ dC rfl)
   have d6:=he.cell (c 6 _ dC rfl)
   have d7:=he.cell (c 7 _ dC rfl)
   have d8:=he.cell (c 8 _ dC rfl)
   simp only[Nat.add_zero] at d0
   have HD:=Lib.hid hd
   clear c hd
   cases hp:Dt d
   .
    go_wp2
    obtain⟨W,hW⟩:∃W,W=wr.alloc (.cells #[.int .i64 d.Index,.int .i64 d.Time,.int .i64 d.Client,.int .i64 d.Seq,.int .i64 d.Op.Kind,.int .i64 d.Op.A,.int .i64 d.Op.B,.int .i64 d.Op.C,.int .i64 d.Op.D] 281):=⟨_,rfl⟩
    have x0:W.cell? ⟨wr.heap.size,0,none⟩=some (.int .i64 d.Index):=by rw[hW];simp
    have x1:W.cell? ⟨wr.heap.size,1,none⟩=some (.int .i64 d.Time):=by rw[hW];simp
    have x2:W.cell? ⟨wr.heap.size,2,none⟩=some (.int .i64 d.Client):=by rw[hW];simp
    have x3:W.cell? ⟨wr.heap.size,3,none⟩=some (.int .i64 d.Seq):=by rw[hW];simp
    have x4:W.cell? ⟨wr.heap.size,4,none⟩=some (.int .i64 d.Op.Kind):=by rw[hW];simp
    have x5:W.cell? ⟨wr.heap.size,5,none⟩=some (.int .i64 d.Op.A):=by rw[hW];simp
    have x6:W.cell? ⟨wr.heap.size,6,none⟩=some (.int .i64 d.Op.B):=by rw[hW];simp
    have x7:W.cell? ⟨wr.heap.size,7,none⟩=some (.int .i64 d.Op.C):=by rw[hW];simp
    have x8:W.cell? ⟨wr.heap.size,8,none⟩=some (.int .i64 d.Op.D):=by rw[hW];simp
    have hEW:Ext w W:=by rw[hW];exact he.alloc _
    (try have e0:=(show Ext wr W by rw[hW];exact(Ext.refl _).alloc _).cell e0);(try have e1:=(show Ext wr W by rw[hW];exact(Ext.refl _).alloc _).cell e1)
    rw[<-hW]
    clear hW
    refine rx0 uT fun w1 hx1=>?_
    go_wp2
    go_ret
    exact⟨congrArg (fun z=>Ending.returned (.bool z)) (Hi (fun hh=>by have:=(hh.2 k hlt d HD.out).1;rw[hp] at this;cases this)).symm,hEW.trans hx1⟩
   by_cases hk0:k=0
   .
    subst hk0
    (try simp only[Nat.zero_mul,Nat.add_zero] at d0 d1 d2 d3 d4 d5 d6 d7 d8)
    go_wp2
    obtain⟨W,hW⟩:∃W,W=wr.alloc (.cells #[.int .i64 d.Index,.int .i64 d.Time,.int .i64 d.Client,.int .i64 d.Seq,.int .i64 d.Op.Kind,.int .i64 d.Op.A,.int .i64 d.Op.B,.int .i64 d.Op.C,.int .i64 d.Op.D] 281):=⟨_,rfl⟩
    have x0:W.cell? ⟨wr.heap.size,0,none⟩=some (.int .i64 d.Index):=by rw[hW];simp
    have x1:W.cell? ⟨wr.heap.size,1,none⟩=some (.int .i64 d.Time):=by rw[hW];simp
    have x2:W.cell? ⟨wr.heap.size,2,none⟩=some (.int .i64 d.Client):=by rw[hW];simp
    have x3:W.cell? ⟨wr.heap.size,3,none⟩=some (.int .i64 d.Seq):=by rw[hW];simp
    have x4:W.cell? ⟨wr.heap.size,4,none⟩=some (.int .i64 d.Op.Kind):=by rw[hW];simp
    have x5:W.cell? ⟨wr.heap.size,5,none⟩=some (.int .i64 d.Op.A):=by rw[hW];simp
    have x6:W.cell? ⟨wr.heap.size,6,none⟩=some (.int .i64 d.Op.B):=by rw[hW];simp
    have x7:W.cell? ⟨wr.heap.size,7,none⟩=some (.int .i64 d.Op.C):=by rw[hW];simp
    have x8:W.cell? ⟨wr.heap.size,8,none⟩=some (.int .i64 d.Op.D):=by rw[hW];simp
    have hEW:Ext w W:=by rw[hW];exact he.alloc _
    (try have e0:=(show Ext wr W by rw[hW];exact(Ext.refl _).alloc _).cell e0);(try have e1:=(show Ext wr W by rw[hW];exact(Ext.refl _).alloc _).cell e1)
    rw[<-hW]
    clear hW
    refine rx0 eV fun w1 hx1=>?_
    go_wp2
    go_roundw
    case rel=>exact⟨0+1,by omega,by go_num,hEW.trans hx1,Lib.hid (Uw.next HD.out HO.out hp (fun e' hh hl=>by omega))⟩
    case measure=>simp[intOf];omega
   obtain⟨e,b2,o2,hde,hbo,_,c⟩:=HA.out (k - 1) oM
   obtain⟨rfl,rfl⟩:b1=b2/\o1=o2:=by simpa using hbo
   have e0:=he.cell (c 0 _ dC rfl)
   have e1:=he.cell (c 1 _ dC rfl)
   simp only[Nat.add_zero] at e0
   have HE:=Lib.hid hde
   obtain⟨b01,b02,_,_⟩:=Uu (HO.out (k - 1) oM e hde).1
   clear c hde hbo
   have hk1:decide (0<k)=true:=by simp;omega
   by_cases hi:d.Index=e.Index+1
   rotate_left
   .
    have hi':(d.Index != e.Index+1)=true:=by simp[hi]
    clear hi
    go_wp2
    obtain⟨W,hW⟩:∃W,W=wr.alloc (.cells #[.int .i64 d.Index,.int .i64 d.Time,.int .i64 d.Client,.int .i64 d.Seq,.int .i64 d.Op.Kind,.int .i64 d.Op.A,.int .i64 d.Op.B,.int .i64 d.Op.C,.int .i64 d.Op.D] 281):=⟨_,rfl⟩
    have x0:W.cell? ⟨wr.heap.size,0,none⟩=some (.int .i64 d.Index):=by rw[hW];simp
    have x1:W.cell? ⟨wr.heap.size,1,none⟩=some (.int .i64 d.Time):=by rw[hW];simp
    have x2:W.cell? ⟨wr.heap.size,2,none⟩=some (.int .i64 d.Client):=by rw[hW];simp
    have x3:W.cell? ⟨wr.heap.size,3,none⟩=some (.int .i64 d.Seq):=by rw[hW];simp
    have x4:W.cell? ⟨wr.heap.size,4,none⟩=some (.int .i64 d.Op.Kind):=by rw[hW];simp
    have x5:W.cell? ⟨wr.heap.size,5,none⟩=some (.int .i64 d.Op.A):=by rw[hW];simp
    have x6:W.cell? ⟨wr.heap.size,6,none⟩=some (.int .i64 d.Op.B):=by rw[hW];simp
    have x7:W.cell? ⟨wr.heap.size,7,none⟩=some (.int .i64 d.Op.C):=by rw[hW];simp
    have x8:W.cell? ⟨wr.heap.size,8,none⟩=some (.int .i64 d.Op.D):=by rw[hW];simp
    have hEW:Ext w W:=by rw[hW];exact he.alloc _
    (try have e0:=(show Ext wr W by rw[hW];exact(Ext.refl _).alloc _).cell e0);(try have e1:=(show Ext wr W by rw[hW];exact(Ext.refl _).alloc _).cell e1)
    rw[<-hW]
    clear hW
    refine rx0 eV fun w1 hx1=>?_
    go_wp2
    go_ret
    exact⟨congrArg (fun z=>Ending.returned (.bool z)) (Hi (fun hh=>by have:=((hh.2 k hlt d HD.out).2 e oM HE.out).1;simp[this] at hi')).symm,hEW.trans hx1⟩
   have hi':(d.Index != e.Index+1)=false:=by simp[hi]
   have HI:=Lib.hid hi
   clear hi
   by_cases ht:d.Time<e.Time
   .
    have ht':decide (d.Time<e.Time)=true:=by simpa using ht
    go_wp2
    obtain⟨W,hW⟩:∃W,W=wr.alloc (.cells #[.int .i64 d.Index,.int .i64 d.Time,.int .i64 d.Client,.int .i64 d.Seq,.int .i64 d.Op.Kind,.int .i64 d.Op.A,.int .i64 d.Op.B,.int .i64 d.Op.C,.int .i64 d.Op.D] 281):=⟨_,rfl⟩
    have x0:W.cell? ⟨wr.heap.size,0,none⟩=some (.int .i64 d.Index):=by rw[hW];simp
    have x1:W.cell? ⟨wr.heap.size,1,none⟩=some (.int .i64 d.Time):=by rw[hW];simp
    have x2:W.cell? ⟨wr.heap.size,2,none⟩=some (.int .i64 d.Client):=by rw[hW];simp
    have x3:W.cell? ⟨wr.heap.size,3,none⟩=some (.int .i64 d.Seq):=by rw[hW];simp
    have x4:W.cell? ⟨wr.heap.size,4,none⟩=some (.int .i64 d.Op.Kind):=by rw[hW];simp
    have x5:W.cell? ⟨wr.heap.size,5,none⟩=some (.int .i64 d.Op.A):=by rw[hW];simp
    have x6:W.cell? ⟨wr.heap.size,6,none⟩=some (.int .i64 d.Op.B):=by rw[hW];simp
    have x7:W.cell? ⟨wr.heap.size,7,none⟩=some (.int .i64 d.Op.C):=by rw[hW];simp
    have x8:W.cell? ⟨wr.heap.size,8,none⟩=some (.int .i64 d.Op.D):=by rw[hW];simp
    have hEW:Ext w W:=by rw[hW];exact he.alloc _
    (try have e0:=(show Ext wr W by rw[hW];exact(Ext.refl _).alloc _).cell e0);(try have e1:=(show Ext wr W by rw[hW];exact(Ext.refl _).alloc _).cell e1)
    rw[<-hW]
    clear hW
    refine rx0 eV fun w1 hx1=>?_
    go_wp2
    go_ret
    exact⟨congrArg (fun z=>Ending.returned (.bool z)) (Hi (fun hh=>by have:=((hh.2 k hlt d HD.out).2 e oM HE.out).2;omega)).symm,hEW.trans hx1⟩
   have ht':decide (d.Time<e.Time)=false:=by simpa using ht
   go_wp2
   obtain⟨W,hW⟩:∃W,W=wr.alloc (.cells #[.int .i64 d.Index,.int .i64 d.Time,.int .i64 d.Client,.int .i64 d.Seq,.int .i64 d.Op.Kind,.int .i64 d.Op.A,.int .i64 d.Op.B,.int .i64 d.Op.C,.int .i64 d.Op.D] 281):=⟨_,rfl⟩
   have x0:W.cell? ⟨wr.heap.size,0,none⟩=some (.int .i64 d.Index):=by rw[hW];simp
   have x1:W.cell? ⟨wr.heap.size,1,none⟩=some (.int .i64 d.Time):=by rw[hW];simp
   have x2:W.cell? ⟨wr.heap.size,2,none⟩=some (.int .i64 d.Client):=by rw[hW];simp
   have x3:W.cell? ⟨wr.heap.size,3,none⟩=some (.int .i64 d.Seq):=by rw[hW];simp
   have x4:W.cell? ⟨wr.heap.size,4,none⟩=some (.int .i64 d.Op.Kind):=by rw[hW];simp
   have x5:W.cell? ⟨wr.heap.size,5,none⟩=some (.int .i64 d.Op.A):=by rw[hW];simp
   have x6:W.cell? ⟨wr.heap.size,6,none⟩=some (.int .i64 d.Op.B):=by rw[hW];simp
   have x7:W.cell? ⟨wr.heap.size,7,none⟩=some (.int .i64 d.Op.C):=by rw[hW];simp
   have x8:W.cell? ⟨wr.heap.size,8,none⟩=some (.int .i64 d.Op.D):=by rw[hW];simp
   have hEW:Ext w W:=by rw[hW];exact he.alloc _
   (try have e0:=(show Ext wr W by rw[hW];exact(Ext.refl _).alloc _).cell e0);(try have e1:=(show Ext wr W by rw[hW];exact(Ext.refl _).alloc _).cell e1)
   rw[<-hW]
   clear hW
   refine rx0 eV fun w1 hx1=>?_
   go_wp2
   go_roundw
   case rel=>exact⟨k+1,by omega,by go_num,hEW.trans hx1,Lib.hid (Uw.next HD.out HO.out hp (fun e' hh hl=>by rw[HE.out] at hl;obtain rfl:=Option.some.inj hl;exact⟨HI.out,by omega⟩))⟩
   case measure=>simp[intOf];omega
  obtain rfl:k=Ad.length:=by omega
  go_wp2
  go_ret
  exact⟨congrArg (fun z=>Ending.returned (.bool z)) (Qe ⟨h10,HO.out⟩).symm,he⟩
def Lh(m:Ar):Bool:=inb m.Client 2 5&&(inb m.Seq 1 2000&&inb m.Index 1 2000)
def Qf(l:List Ar)(i:Nat):Prop:=∀d,l[i]?=some d->Lh d=true/\(∀e,0<i->l[i - 1]?=some e->e.Client<d.Client)/\(∀j e,j<i->l[j]?=some e->e.Index≠d.Index)
def Ex(l:List Ar):Prop:=(∀m,m ∈ l->Lh m=true)/\l.Pairwise (fun a b=>a.Client<b.Client/\a.Index≠b.Index)
open Classical in
noncomputable def Ii(l:List Ar):Bool:=decide (Ex l)
theorem Jq{l:List Ar}(h:Ex l):Ii l=true:=by simp[Ii,h]
theorem Gq{l:List Ar}(h:¬ Ex l):Ii l=false:=by simp[Ii,h]
theorem Jv{l:List Ar}:Ii l=true↔Ex l:=by simp[Ii]
theorem Ex.nil:Ex []:=⟨fun m h=>(by cases h),List.Pairwise.nil⟩
theorem Ex.at{l:List Ar}(h:Ex l)(i:Nat)(hi:i<l.length):Qf l i:=by
 intro d hd
 obtain⟨_,rfl⟩:=List.getElem?_eq_some_iff.1 hd
 have hp:=List.pairwise_iff_getElem.1 h.2
 refine⟨h.1 _ (List.getElem_mem hi),fun e h0 he=>?_,fun j e hj he=>?_⟩
 .
  obtain⟨h1,rfl⟩:=List.getElem?_eq_some_iff.1 he
  exact(hp (i - 1) i h1 hi oM).1
 obtain⟨h1,rfl⟩:=List.getElem?_eq_some_iff.1 he
 exact(hp j i h1 hi hj).2
theorem Ex.of_at{l:List Ar}(h:∀i,i<l.length->Qf l i):Ex l:=by
 refine⟨fun m hm=>?_,List.pairwise_iff_getElem.2 ?_⟩
 .
  obtain⟨i,hi,rfl⟩:=List.getElem_of_mem hm
  exact(h i hi _ (List.getElem?_eq_getElem hi)).1
 have hlt:∀(n i j:Nat) (hi:i<l.length) (hj:j<l.length),j=i+1+n->l[i].Client<l[j].Client:=by
  intro n
  induction n with
  | zero =>
   intro i j hi hj hij
   exact(h j hj _ (List.getElem?_eq_getElem hj)).2.1 l[i] oM (by rw[show j - 1=i by omega];exact List.getElem?_eq_getElem hi)
  | succ n ih =>
   intro i j hi hj hij
   have h1:=ih i (j - 1) hi oM oM
   have h2:=(h j hj _ (List.getElem?_eq_getElem hj)).2.1 l[j - 1] oM (List.getElem?_eq_getElem oM)
   omega
 intro i j hi hj hij
 exact⟨hlt (j - i - 1) i j hi hj oM,(h j hj _ (List.getElem?_eq_getElem hj)).2.2 i _ hij (List.getElem?_eq_getElem hi)⟩
theorem Qf.next{l:List Ar}{k:Nat}{d:Ar}(hd:l[k]?=some d)(h:∀i,i<k->Qf l i)(h1:Lh d=true)(h2:∀e,0<k->l[k - 1]?=some e->e.Client<d.Client)(h3:∀j e,j<k->l[j]?=some e->e.Index≠d.Index):∀i,i<k+1->Qf l i:=by
 intro i hi
 by_cases hik:i=k
 .
  subst hik
  intro d' hd'
  rw[hd] at hd'
  obtain rfl:=Option.some.inj hd'
  exact⟨h1,h2,h3⟩
 exact h i oM
theorem Nz{m:Ar}(h:Lh m=true):2<=m.Client/\m.Client<=5/\1<=m.Seq/\m.Seq<=2000/\1<=m.Index/\m.Index<=2000:=by
 simp only[Lh,Bool.and_eq_true,Dz] at h;omega
theorem Ex.key{l:List Ar}(h:Ex l):∀(i:Nat) (hi:i<l.length),(i:Int)+2<=l[i].Client
 | 0,hi=>by have:=Nz (h.1 _ (List.getElem_mem hi));omega
 | i+1,hi=>by
  have h1:=Ex.key h i oM
  have h2:=(List.pairwise_iff_getElem.1 h.2 i (i+1) oM hi oM).1
  omega
theorem Ex.len{l:List Ar}(h:Ex l):l.length<=4:=by
 rcases Nat.lt_or_ge 4 l.length with h4|h4
 .
  have h1:=h.key 4 h4
  have h2:=Nz (h.1 _ (List.getElem_mem h4))
  omega
 exact h4
theorem Ex.tail{m:Ar}{l:List Ar}(h:Ex (m::l)):Ex l:=⟨fun x hx=>h.1 x (List.mem_cons_of_mem _ hx),(List.pairwise_cons.1 h.2).2⟩
theorem Ex.head{m:Ar}{l:List Ar}(h:Ex (m::l)):∀x,x ∈ l->m.Client<x.Client:=fun x hx=>((List.pairwise_cons.1 h.2).1 x hx).1
/-! The greatest index. -/
def Nh(a:Int)(l:List Ar):Int:=l.foldl (fun a m=>max a m.Index) a
def Ej(l:List Ar):Int:=Nh 0 l
theorem Yj(l:List Ar):∀a,a<=Nh a l:=by
 induction l with
 | nil=>intro a;exact Int.le_refl _
 | cons m l ih=>intro a;have:=ih (max a m.Index);simp only[Nh,List.foldl_cons] at this ⊢;omega
theorem eW{l:List Ar}:∀{a:Int} {m:Ar},m ∈ l->m.Index<=Nh a l:=by
 induction l with
 | nil=>intro a m h;cases h
 | cons x l ih =>
  intro a m h
  rcases List.mem_cons.1 h with rfl|h
  .
   have:=Yj l (max a m.Index)
   simp only[Nh,List.foldl_cons] at this ⊢;omega
  exact ih h
theorem iM{l:List Ar}{b:Int}:∀{a:Int},a<=b->(∀m,m ∈ l->m.Index<=b)->Nh a l<=b:=by
 induction l with
 | nil=>intro a h _;exact h
 | cons x l ih =>
  intro a h hm
  have:=hm x (List.mem_cons_self ..)
  exact ih (show max a x.Index<=b by omega) (fun m h=>hm m (List.mem_cons_of_mem _ h))
theorem iN(l:List Ar):0<=Ej l:=Yj l 0
theorem Si{l:List Ar}{m:Ar}(h:m ∈ l):m.Index<=Ej l:=eW h
theorem bT(l:List Ar)(m:Ar):Ej (l++[m])=max (Ej l) m.Index:=by simp[Ej,Nh,List.foldl_append]
/-! The mark of a client. -/
def Dg(l:List Ar)(c:Int):Option Ar:=l.find? (fun m=>decide (m.Client=c))
def Tl:Ar:=⟨0,0,0⟩
def Fp(l:List Ar)(c:Int):Ar:=(Dg l c).getD Tl
theorem Ux{l:List Ar}{c:Int}(h:∀m,m ∈ l->m.Client≠c):Dg l c=none:=by
 rw[Dg,List.find?_eq_none];intro m hm;simpa using h m hm
/-! A mark put in its place. -/
def Ed:List Ar->Ar->List Ar
 | [],x=>[x]
 | m::l,x=>if x.Client<m.Client then x::m::l else if x.Client=m.Client then x::l else m::Ed l x
theorem Tm{l:List Ar}{x m:Ar}:m ∈ Ed l x->m=x\/m ∈ l:=by
 induction l with
 | nil=>intro h;simp[Ed] at h;exact .inl h
 | cons y l ih =>
  intro h
  rw[Ed] at h
  split at h
  .
   rcases List.mem_cons.1 h with h|h
   .
    exact .inl h
   exact .inr h
  split at h
  .
   rcases List.mem_cons.1 h with h|h
   .
    exact .inl h
   exact .inr (List.mem_cons_of_mem _ h)
  rcases List.mem_cons.1 h with h|h
  .
   exact .inr (h ▸ List.mem_cons_self ..)
  rcases ih h with h|h
  .
   exact .inl h
  exact .inr (List.mem_cons_of_mem _ h)
theorem eX(l:List Ar)(x:Ar):x ∈ Ed l x:=by
 induction l with
 | nil=>simp[Ed]
 | cons y l ih=>rw[Ed];split <;> (try split) <;> simp[ih]
theorem kS{l:List Ar}{x:Ar}(h:Ex l)(hx:Lh x=true)(hl:Ej l<x.Index):Ex (Ed l x):=by
 have hlt:∀m,m ∈ l->m.Index<x.Index:=fun m hm=>by have:=Si hm;omega
 clear hl
 refine⟨fun m hm=>?_,?_⟩
 .
  rcases Tm hm with rfl|hm
  .
   exact hx
  exact h.1 m hm
 induction l with
 | nil=>simp[Ed]
 | cons y l ih =>
  have ht:=h.tail
  have hh:=h.head
  have hy:=hlt y (List.mem_cons_self ..)
  have hlt':∀m,m ∈ l->m.Index<x.Index:=fun m hm=>hlt m (List.mem_cons_of_mem _ hm)
  rw[Ed]
  split
  .
   rename_i h1
   refine List.pairwise_cons.2 ⟨fun m hm=>?_,h.2⟩
   rcases List.mem_cons.1 hm with rfl|hm
   .
    exact⟨h1,by omega⟩
   have:=hh m hm;have:=hlt' m hm;exact⟨by omega,by omega⟩
  split
  .
   rename_i h1 h2
   refine List.pairwise_cons.2 ⟨fun m hm=>?_,ht.2⟩
   have:=hh m hm;have:=hlt' m hm;exact⟨by omega,by omega⟩
  rename_i h1 h2
  refine List.pairwise_cons.2 ⟨fun m hm=>?_,ih ht hlt'⟩
  rcases Tm hm with rfl|hm
  .
   exact⟨by omega,by omega⟩
  exact(List.pairwise_cons.1 h.2).1 m hm
theorem eY{l:List Ar}{x:Ar}(hl:Ej l<x.Index):Ej (Ed l x)=x.Index:=by
 have h1:=Si (eX l x)
 have h2:Ej (Ed l x)<=x.Index:=iM (by have:=iN l;omega) (fun m hm=>by
  rcases Tm hm with rfl|hm
  .
   exact Int.le_refl _
  have:=Si hm;omega)
 omega
theorem bV{l:List Ar}(h:Ex l)(x:Ar):Dg (Ed l x) x.Client=some x:=by
 induction l with
 | nil=>simp[Ed,Dg]
 | cons y l ih =>
  rw[Ed]
  split
  .
   simp[Dg]
  split
  .
   simp[Dg]
  rename_i h1 h2
  have:=ih h.tail
  rw[Dg] at this ⊢
  rw[List.find?_cons_of_neg (by simpa using fun e=>h2 e.symm)]
  exact this
theorem aB{l:List Ar}(h:Ex l){x:Ar}{c:Int}(hc:c≠x.Client):Dg (Ed l x) c=Dg l c:=by
 induction l with
 | nil=>simp[Ed,Dg];exact fun e=>hc e.symm
 | cons y l ih =>
  rw[Ed]
  split
  .
   rw[Dg,List.find?_cons_of_neg (by simpa using fun e=>hc e.symm)];rfl
  split
  .
   rename_i h1 h2
   rw[Dg,List.find?_cons_of_neg (by simpa using fun e=>hc e.symm),Dg,List.find?_cons_of_neg (by simpa using fun e=>hc oM)]
  have:=ih h.tail
  simp only[Dg] at this ⊢
  by_cases hy:y.Client=c
  .
   rw[List.find?_cons_of_pos (by simpa using hy),List.find?_cons_of_pos (by simpa using hy)]
  rw[List.find?_cons_of_neg (by simpa using hy),List.find?_cons_of_neg (by simpa using hy)];exact this
theorem aC{A B:List Ar}{x:Ar}(h:∀m,m ∈ A->m.Client<x.Client):Ed (A++B) x=A++Ed B x:=by
 induction A with
 | nil=>rfl
 | cons m A ih =>
  have:=h m (List.mem_cons_self ..)
  rw[List.cons_append,Ed,if_neg oM,if_neg oM,ih (fun y hy=>h y (List.mem_cons_of_mem _ hy)),List.cons_append]
theorem pW{A B:List Ar}{x:Ar}(h:∃m,m ∈ A/\x.Client<=m.Client):Ed (A++B) x=Ed A x++B:=by
 induction A with
 | nil=>obtain⟨m,hm,_⟩:=h;cases hm
 | cons y A ih =>
  rw[List.cons_append,Ed,Ed]
  split
  .
   rfl
  split
  .
   rfl
  rw[ih];· rfl
  obtain⟨m,hm,hx⟩:=h
  rcases List.mem_cons.1 hm with rfl|hm
  .
   omega
  exact⟨m,hm,hx⟩
theorem bW{l:List Ar}(h:Ex l):∀(n:Nat) (a:Int),(∀m,m ∈ l->a<=m.Client/\m.Client<a+n)->(List.range n).filterMap (fun i=>Dg l (a+(i:Nat)))=l:=by
 intro n
 induction n generalizing l with
 | zero =>
  intro a hm
  cases l with
  | nil=>rfl
  | cons m l=>have:=hm m (List.mem_cons_self ..);omega
 | succ n ih =>
  intro a hm
  rw[List.range_succ_eq_map,List.filterMap_cons,List.filterMap_map]
  have hf:((fun i=>Dg l (a+(i:Nat))) ∘ Nat.succ)=fun i=>Dg l ((a+1)+(i:Nat)):=by
   funext i;simp only[Function.comp_apply];congr 1;push_cast;omega
  rw[hf]
  cases l with
  | nil=>simp[Dg]
  | cons y l =>
   have hy:=hm y (List.mem_cons_self ..)
   have hh:=h.head
   by_cases hya:y.Client=a
   .
    have h0:Dg (y::l) (a+((0:Nat):Int))=some y:=by rw[Dg,List.find?_cons_of_pos (by simpa using hya)]
    have hr:(List.range n).filterMap (fun i=>Dg (y::l) ((a+1)+(i:Nat)))=l:=by
     have hff:(fun i:Nat=>Dg (y::l) ((a+1)+(i:Int)))=fun i:Nat=>Dg l ((a+1)+(i:Int)):=by
      funext i
      rw[Dg,List.find?_cons_of_neg (by simp;omega)];rfl
     rw[hff]
     exact ih h.tail (a+1) (fun m h'=>by have:=hh m h';have:=(hm m (List.mem_cons_of_mem _ h')).2;omega)
    simp only[h0,hr]
   have h0:Dg (y::l) (a+((0:Nat):Int))=none:=Ux (fun m h'=>by
    rcases List.mem_cons.1 h' with rfl|h'
    .
     simpa using hya
    have:=hh m h';simp;omega)
   simp only[h0]
   refine ih h (a+1) (fun m h'=>?_)
   rcases List.mem_cons.1 h' with rfl|h''
   .
    omega
   have:=hh m h'';have:=(hm m h').2;omega
theorem kT{l:List Ar}(h:Ex l):(List.range 4).filterMap (fun i=>Dg l (2+(i:Nat)))=l :=
 bW h 4 2 (fun m hm=>by have:=Nz (h.1 m hm);omega)
/-! Entries recorded. -/
def Kg(e:Aq):Ar:=⟨e.Client,e.Seq,e.Index⟩
def Es(s:List Ar)(e:Aq):Option (List Ar):=if Dt e&&(decide ((Fp s e.Client).Seq<e.Seq)&&decide (Ej s<e.Index)) then some (Ed s (Kg e)) else none
def Dn:List Ar->List Aq->Option (List Ar)
 | s,[]=>some s
 | s,e::l=>match Es s e with|none=>none|some s'=>Dn s' l
theorem Sj(s:List Ar)(l l':List Aq):Dn s (l++l')=(Dn s l).bind (fun t=>Dn t l'):=by
 induction l generalizing s with
 | nil=>rfl
 | cons e l ih =>
  rw[List.cons_append,Dn,Dn]
  cases Es s e with
  | none=>rfl
  | some t=>exact ih t
theorem eZ(s:List Ar)(e:Aq):Dn s [e]=Es s e:=by
 rw[Dn];cases Es s e <;> rfl
theorem Rj{s t:List Ar}{l:List Aq}{k:Nat}{e:Aq}(he:l[k]?=some e)(h:Dn s (l.take k)=some t):Dn s (l.take (k+1))=Es t e:=by
 have hk:=(List.getElem?_eq_some_iff.1 he).1
 rw[List.take_succ_eq_append_getElem hk,Sj,h,<-(List.getElem?_eq_some_iff.1 he).2]
 exact eZ _ _
theorem Oh{s t:List Ar}{l:List Aq}{k:Nat}{e:Aq}(he:l[k]?=some e)(h:Dn s (l.take k)=some t)(hn:Es t e=none):Dn s l=none:=by
 have h1:=Rj he h
 rw[hn] at h1
 rw[<-List.take_append_drop (k+1) l,Sj,h1];rfl
theorem Ki{e:Aq}(h:Dt e=true):1<=e.Index/\e.Index<=2000/\0<=e.Time/\e.Time<=1000000/\2<=e.Client/\e.Client<=5/\1<=e.Seq/\e.Seq<=2000/\Nn e.Op=true:=by
 simp only[Dt,Ea,Bool.and_eq_true,Dz] at h
 obtain⟨h1,h2,h3,h4,h5⟩:=h
 exact⟨h1.1,h1.2,h2.1,h2.2,h3.1,h3.2,h4.1,h4.2,h5⟩
theorem pX{e:Aq}(h:Dt e=true):Lh (Kg e)=true:=by
 obtain⟨h1,h2,_,_,h5,h6,h7,h8,_⟩:=Ki h
 simp only[Lh,Kg,Bool.and_eq_true,Dz];omega
theorem bY{s t:List Ar}{e:Aq}(h:Es s e=some t):Dt e=true/\(Fp s e.Client).Seq<e.Seq/\Ej s<e.Index/\t=Ed s (Kg e):=by
 unfold Es at h
 split at h
 .
  rename_i hc
  simp only[Bool.and_eq_true,decide_eq_true_eq] at hc
  exact⟨hc.1,hc.2.1,hc.2.2,(Option.some.inj h).symm⟩
 cases h
theorem Qy{s t:List Ar}{e:Aq}(hs:Ex s)(h:Es s e=some t):Ex t/\Ej t=e.Index:=by
 obtain⟨h1,h2,h3,rfl⟩:=bY h
 exact⟨kS hs (pX h1) h3,eY (x:=Kg e) h3⟩
theorem Qz{s t:List Ar}{l:List Aq}(hs:Ex s)(h:Dn s l=some t):Ex t:=by
 induction l generalizing s with
 | nil=>obtain rfl:=Option.some.inj h;exact hs
 | cons e l ih =>
  rw[Dn] at h
  cases hq:Es s e with
  | none=>rw[hq] at h;cases h
  | some u=>rw[hq] at h;exact ih (Qy hs hq).1 h
theorem bZ{s t:List Ar}{l:List Aq}(hs:Ex s)(h:Dn s l=some t){e:Aq}(he:l.getLast?=some e):Ej t=e.Index:=by
 induction l generalizing s with
 | nil=>cases he
 | cons x l ih =>
  rw[Dn] at h
  cases hq:Es s x with
  | none=>rw[hq] at h;cases h
  | some u =>
   rw[hq] at h
   cases l with
   | nil =>
    obtain rfl:=Option.some.inj h
    simp at he;subst he
    exact(Qy hs hq).2
   | cons y l=>exact ih (Qy hs hq).1 h (by simpa using he)
theorem cD{s t:List Ar}{l:List Aq}(h:Dn s l=some t)(k:Nat):∃u,Dn s (l.take k)=some u:=by
 rw[<-List.take_append_drop k l,Sj] at h
 cases hq:Dn s (l.take k) with
 | none=>rw[hq] at h;cases h
 | some u=>exact⟨u,rfl⟩
theorem dD{l:List Ar}{k:Nat}{d:Ar}{S:List Int}(hd:l[k]?=some d)(hS:∀x,x ∈ S↔∃i e,i<k/\l[i]?=some e/\e.Index=x):∀x,x ∈ d.Index::S↔∃i e,i<k+1/\l[i]?=some e/\e.Index=x:=by
 intro x
 rw[List.mem_cons,hS x]
 constructor
 .
  rintro(rfl|⟨i,e,hi,h1,h2⟩)
  .
   exact⟨k,d,by omega,hd,rfl⟩
  exact⟨i,e,by omega,h1,h2⟩
 rintro⟨i,e,hi,h1,h2⟩
 by_cases hik:i=k
 .
  subst hik
  rw[hd] at h1
  obtain rfl:=Option.some.inj h1
  exact .inl h2.symm
 exact .inr ⟨i,e,by omega,h1,h2⟩
theorem zbM(w:World):(zeroValue 4).run Tryz.prog w=.ok (.bool false) w:=by kernel_rfl
theorem aD(w:World)(v:Value)(l:List Ar)(h:Aj 3 w v (Cz l)):Calls Tryz.prog 357 #[v] w (Cp w (.bool (Ii l))):=by
 obtain⟨a,cap,rfl,hcap,hm,ha⟩:=h.recs (f:=Ar.ints) (fun _=>rfl) dC
 have HA:=Lib.hid ha
 clear ha
 unfold maxLen at hm
 have hmm:=@run_makeMap Tryz.prog
 go_enter Tryz.func357,Tryz.ntmps357
 go_wp2
 clear hmm
 go_loopw [9] (fun i wr=>∃k:Nat,k<=l.length/\i=.int .i64 k/\Ext w wr/\∃S,Mz Tryz.prog 2 4 wr w.heap.size k S/\Hid (∀i,i<k->Qf l i)/\Hid (∀x,x ∈ S↔∃i e,i<k/\l[i]?=some e/\e.Index=x)) (fun i _=>l.length - (intOf i).toNat)
 case atStart=>exact⟨0,Nat.zero_le _,rfl,(Ext.refl _).alloc _,[],Mz.made Tryz.prog 2 4 w,Lib.hid (fun i hi=>by omega),Lib.hid (fun x=>by simp)⟩
 case round =>
  obtain⟨k,hk,rfl,he,S,hset,HO,HM⟩:=hrel
  have hsz:=he.size
  have hset0:=hset.lt
  by_cases hlt:k<l.length
  .
   obtain⟨d,b1,o1,hd,rfl,hb1,c⟩:=HA.out k hlt
   have d0:=he.cell (c 0 _ dC rfl)
   have d1:=he.cell (c 1 _ dC rfl)
   have d2:=he.cell (c 2 _ dC rfl)
   simp only[Nat.add_zero] at d0
   have HD:=Lib.hid hd
   clear c hd
   go_upto_region 5 with(fail)
   obtain⟨W,hW⟩:∃W,W=wr.alloc (.cells #[.int .i64 d.Client,.int .i64 d.Seq,.int .i64 d.Index] 290):=⟨_,rfl⟩
   have hset':Mz Tryz.prog 2 4 W w.heap.size k S:=by rw[hW];exact hset.ext ((Ext.refl wr).alloc _)
   have heW:Ext w W:=by rw[hW];exact he.alloc _
   have heR:Ext wr W:=by rw[hW];exact(Ext.refl wr).alloc _
   have KX:Blk W wr.heap.size 290 #[.int .i64 d.Client,.int .i64 d.Seq,.int .i64 d.Index]:=by rw[hW];exact Blk.new _ _ _
   obtain⟨CX,FX,LX⟩:=KX.cfl
   rw[<-hW]
   clear hW
   cases p1:inb d.Client 2 5
   .
    go_wp2_with (first|(go_at_call 410;refine(Pt _ _).mono ?_;rintro e9 w9 ⟨rfl,rfl⟩)|(go_at_call 411;refine(Ui _ _).mono ?_;rintro e9 w9 ⟨rfl,rfl⟩)|(go_at_call 412;refine(Pr _ _).mono ?_;rintro e9 w9 ⟨rfl,rfl⟩))
    go_ret
    exact⟨congrArg (fun z=>Ending.returned (.bool z)) (Gq (fun hh=>by have:=(hh.at k hlt d HD.out).1;rw[Lh,p1] at this;cases this)).symm,by exact Aa⟩
   cases p2:inb d.Seq 1 2000
   .
    go_wp2_with (first|(go_at_call 410;refine(Pt _ _).mono ?_;rintro e9 w9 ⟨rfl,rfl⟩)|(go_at_call 411;refine(Ui _ _).mono ?_;rintro e9 w9 ⟨rfl,rfl⟩)|(go_at_call 412;refine(Pr _ _).mono ?_;rintro e9 w9 ⟨rfl,rfl⟩))
    go_ret
    exact⟨congrArg (fun z=>Ending.returned (.bool z)) (Gq (fun hh=>by have:=(hh.at k hlt d HD.out).1;rw[Lh,p2] at this;simp at this)).symm,by exact Aa⟩
   cases p3:inb d.Index 1 2000
   .
    go_wp2_with (first|(go_at_call 410;refine(Pt _ _).mono ?_;rintro e9 w9 ⟨rfl,rfl⟩)|(go_at_call 411;refine(Ui _ _).mono ?_;rintro e9 w9 ⟨rfl,rfl⟩)|(go_at_call 412;refine(Pr _ _).mono ?_;rintro e9 w9 ⟨rfl,rfl⟩))
    go_ret
    exact⟨congrArg (fun z=>Ending.returned (.bool z)) (Gq (fun hh=>by have:=(hh.at k hlt d HD.out).1;rw[Lh,p3] at this;simp at this)).symm,by exact Aa⟩
   have hp:Lh d=true:=by rw[Lh,p1,p2,p3];rfl
   have hlk:=hset'.look (t:=407) Tryz.underlying2 Tryz.underlying407 Tryz.underlying4 (zbM _) (x:=d.Index) (WalkArith.wf_i64 (by have:=Nz hp;omega))
   by_cases hmem:d.Index ∈ S
   .
    rw[show decide (d.Index ∈ S)=true by simpa using hmem] at hlk
    have HMM:=Lib.hid hmem
    clear hmem
    go_wp2_with (first|(go_at_call 410;refine(Pt _ _).mono ?_;rintro e9 w9 ⟨rfl,rfl⟩)|(go_at_call 411;refine(Ui _ _).mono ?_;rintro e9 w9 ⟨rfl,rfl⟩)|(go_at_call 412;refine(Pr _ _).mono ?_;rintro e9 w9 ⟨rfl,rfl⟩))
    go_ret
    exact⟨congrArg (fun z=>Ending.returned (.bool z)) (Gq (fun hh=>by obtain⟨i,e,hi,h1,h2⟩:=(HM.out d.Index).1 HMM.out;exact(hh.at k hlt d HD.out).2.2 i e hi h1 h2)).symm,by exact Aa⟩
   rw[show decide (d.Index ∈ S)=false by simpa using hmem] at hlk
   have HMM:=Lib.hid hmem
   clear hmem
   go_upto_region 7 with(first|(go_at_call 410;refine(Pt _ _).mono ?_;rintro e9 w9 ⟨rfl,rfl⟩)|(go_at_call 411;refine(Ui _ _).mono ?_;rintro e9 w9 ⟨rfl,rfl⟩)|(go_at_call 412;refine(Pr _ _).mono ?_;rintro e9 w9 ⟨rfl,rfl⟩))
   clear hlk
   by_cases hk0:k=0
   .
    have hk1:decide (0<k)=false:=by simp;omega
    have HK:=Lib.hid hk0
    clear hk0
    go_wp2_with fail
    go_quiet (fail)
    have hw:(Lit.int .i64 d.Index).wf=true:=WalkArith.wf_i64 (by have:=Nz hp;omega)
    go_wp2_with (first|(at_mapUpdate;refine Jt rfl _ _ _ 407 rfl 2 4 Tryz.underlying2 Tryz.underlying407 Tryz.underlying4 _ _ _ _ rfl rfl rfl hset' (by unfold maxLen;omega) hw ?_;intro w2 hset2 hgr2))
    have hx2:=(heW.drewN _).grownOwn hgr2 oM
    go_roundw
    case rel=>exact⟨k+1,by omega,by go_num,hx2,_,hset2,Lib.hid (Qf.next HD.out HO.out hp (fun e' hh hl=>by have:=HK.out;omega) (fun j e' hj hl hh=>HMM.out ((HM.out _).2 ⟨j,e',hj,hl,hh⟩))),Lib.hid (dD HD.out HM.out)⟩
    case measure=>simp[intOf];omega
   obtain⟨e,b2,o2,hde,hbo,_,c⟩:=HA.out (k - 1) oM
   obtain⟨rfl,rfl⟩:b1=b2/\o1=o2:=by simpa using hbo
   have e0:=heW.cell (c 0 _ dC rfl)
   simp only[Nat.add_zero] at e0
   have HE:=Lib.hid hde
   clear c hde hbo
   have hk1:decide (0<k)=true:=by simp;omega
   by_cases hle:d.Client<=e.Client
   .
    have hle':decide (d.Client<=e.Client)=true:=by simpa using hle
    go_wp2_with fail
    go_quiet (fail)
    go_wp2_with fail
    go_ret
    exact⟨congrArg (fun z=>Ending.returned (.bool z)) (Gq (fun hh=>by have:=(hh.at k hlt d HD.out).2.1 e oM HE.out;omega)).symm,by exact Aa⟩
   have hle':decide (d.Client<=e.Client)=false:=by simpa using hle
   go_wp2_with fail
   go_quiet (fail)
   have hw:(Lit.int .i64 d.Index).wf=true:=WalkArith.wf_i64 (by have:=Nz hp;omega)
   go_wp2_with (first|(at_mapUpdate;refine Jt rfl _ _ _ 407 rfl 2 4 Tryz.underlying2 Tryz.underlying407 Tryz.underlying4 _ _ _ _ rfl rfl rfl hset' (by unfold maxLen;omega) hw ?_;intro w2 hset2 hgr2))
   have hx2:=(heW.drewN _).grownOwn hgr2 oM
   go_roundw
   case rel=>exact⟨k+1,by omega,by go_num,hx2,_,hset2,Lib.hid (Qf.next HD.out HO.out hp (fun e' hh hl=>by rw[HE.out] at hl;obtain rfl:=Option.some.inj hl;omega) (fun j e' hj hl hh=>HMM.out ((HM.out _).2 ⟨j,e',hj,hl,hh⟩))),Lib.hid (dD HD.out HM.out)⟩
   case measure=>simp[intOf];omega
  obtain rfl:k=l.length:=by omega
  go_wp2
  go_ret
  exact⟨congrArg (fun z=>Ending.returned (.bool z)) (Jq (Ex.of_at HO.out)).symm,he⟩
theorem Xo{p:Prop}(h:p:=by intro KQ hKQ;(repeat (first|go_big_quiet_skip|(go_big_quiet_want;first|(refine Br _ _ _ ?_ rfl rfl (fun wq hq=>?_) ?_;rotate_left;(focus((try have y0:=hq.cell d0);(try have y1:=hq.cell d1);(try have y2:=hq.cell d2);(try have z0:=hq.cell e0);go_simp;first|done|rfl));(try simp only[Ab,Act.put]);go_big_quiet_on)|(go_big_quiet_op;first|go_big_quiet_on|(refine⟨_,fun _ _=>rfl,?_⟩;go_big_quiet_on)|(apply Exists.intro;refine⟨fun wq hq=>?_,?_⟩;(focus(first|exact Ce hq (by have c:=Vm wq d.Client;rw[p1] at c;exact c)|exact Ce hq (by have c:=eM wq d.Seq;rw[p2] at c;exact c)|exact Ce hq (by have c:=cT wq d.Index;rw[p3] at c;exact c)));go_big_quiet_on)))));exact wpQuiet_nil hKQ):p:=h
theorem Ob(w:World)(v:Value)(l:List Ar)(h:Aj 3 w v (Cz l)):Calls Tryz.prog 375 #[v] w (Cp w (.bool (Ii l))):=by
 obtain⟨a,cap,rfl,hcap,hm,ha⟩:=h.recs (f:=Ar.ints) (fun _=>rfl) dC
 have HA:=Lib.hid ha
 clear ha
 unfold maxLen at hm
 by_cases h4:l.length<=4
 rotate_left
 .
  go_enter Tryz.func375,Tryz.ntmps375
  go_wp2
  go_ret
  exact⟨congrArg (fun z=>Ending.returned (.bool z)) (Gq (fun hh=>h4 hh.len)).symm,Ext.refl _⟩
 go_enter Tryz.func375,Tryz.ntmps375
 go_wp2
 go_loopw [3] (fun i wr=>∃k:Nat,k<=l.length/\i=.int .i64 k/\Ext w wr/\Hid (∀i,i<k->Qf l i)) (fun i _=>l.length - (intOf i).toNat)
 case atStart=>exact⟨0,Nat.zero_le _,rfl,Ext.refl _,Lib.hid (fun i hi=>by omega)⟩
 case round =>
  obtain⟨k,hk,rfl,he,HO⟩:=hrel
  by_cases hlt:k<l.length
  .
   obtain⟨d,b1,o1,hd,rfl,hb1,c⟩:=HA.out k hlt
   have q2:=c 2 _ dC rfl
   have d0:=he.cell (c 0 _ dC rfl)
   have d1:=he.cell (c 1 _ dC rfl)
   have d2:=he.cell (c 2 _ dC rfl)
   simp only[Nat.add_zero] at d0
   have HD:=Lib.hid hd
   clear c hd
   go_upto_region 6 with(fail)
   cases p1:inb d.Client 2 5
   .
    refine rx0 Xo fun w1 hx1=>?_
    go_wp2_with fail
    go_ret
    exact⟨congrArg (fun z=>Ending.returned (.bool z)) (Gq (fun hh=>by have:=(hh.at k hlt d HD.out).1;rw[Lh,p1] at this;cases this)).symm,he.trans hx1⟩
   cases p2:inb d.Seq 1 2000
   .
    refine rx0 Xo fun w1 hx1=>?_
    go_wp2_with fail
    go_ret
    exact⟨congrArg (fun z=>Ending.returned (.bool z)) (Gq (fun hh=>by have:=(hh.at k hlt d HD.out).1;rw[Lh,p2] at this;simp at this)).symm,he.trans hx1⟩
   cases p3:inb d.Index 1 2000
   .
    refine rx0 Xo fun w1 hx1=>?_
    go_wp2_with fail
    go_ret
    exact⟨congrArg (fun z=>Ending.returned (.bool z)) (Gq (fun hh=>by have:=(hh.at k hlt d HD.out).1;rw[Lh,p3] at this;simp at this)).symm,he.trans hx1⟩
   have hp:Lh d=true:=by rw[Lh,p1,p2,p3];rfl
   by_cases hk0:k=0
   .
    have hk1:decide (0<k)=false:=by simp;omega
    have HK:=Lib.hid hk0
    clear hk0
    refine rx0 Xo fun w1 hx1=>?_
    have hx2:=hx1
    go_wp2_with fail
    go_loopw [4] (fun i wr=>∃j:Nat,j<=k/\i=.int .i64 j/\Ext w wr/\Hid (∀i e,i<j->l[i]?=some e->e.Index≠d.Index)) (fun i _=>k - (intOf i).toNat)
    case atStart=>exact⟨0,Nat.zero_le _,rfl,he.trans hx1,Lib.hid (fun i e hi=>by omega)⟩
    case round =>
     obtain⟨wo,hwo⟩:∃wo,wo=wr:=⟨_,rfl⟩
     clear hx1 hx2 d0 d1 d2
     obtain⟨j,hj,rfl,he,HJ⟩:=hrel
     by_cases hjl:j<k
     .
      obtain⟨x,b3,o3,hxx,hbx,_,c⟩:=HA.out j oM
      obtain⟨rfl,rfl⟩:b1=b3/\o1=o3:=by simpa using hbx
      have x2:=he.cell (c 2 _ dC rfl)
      have d2:=he.cell q2
      have HX:=Lib.hid hxx
      clear c hxx hbx
      by_cases hxe:x.Index=d.Index
      .
       have hxe1:decide (x.Index=d.Index)=true:=by simpa using hxe
       have hxe2:(x.Index == d.Index)=true:=by simpa using hxe
       have HXE:=Lib.hid hxe
       clear hxe
       go_wp2_with fail
       go_quiet (fail)
       go_wp2_with fail
       go_ret
       exact⟨congrArg (fun z=>Ending.returned (.bool z)) (Gq (fun hh=>(hh.at k hlt d HD.out).2.2 j x hjl HX.out HXE.out)).symm,by exact Aa⟩
      have hxe1:decide (x.Index=d.Index)=false:=by simpa using hxe
      have hxe2:(x.Index == d.Index)=false:=by simpa using hxe
      have HXE:=Lib.hid hxe
      clear hxe
      go_wp2_with fail
      go_quiet (fail)
      go_wp2_with fail
      go_roundw
      case rel=>exact⟨j+1,by omega,by go_num,by exact Aa,Lib.hid (fun i e hi hl=>by
       by_cases hij:i=j
       .
        subst hij;rw[HX.out] at hl;obtain rfl:=Option.some.inj hl;exact HXE.out
       exact HJ.out i e oM hl)⟩
      case measure=>simp[intOf];omega
     obtain rfl:j=k:=by omega
     go_wp2_with fail
     go_roundw
     case rel=>exact⟨j+1,by omega,by go_num,by exact Aa,Lib.hid (Qf.next HD.out HO.out hp (fun e' hh hl=>by have:=HK.out;omega) HJ.out)⟩
     case measure=>simp[intOf];omega
   obtain⟨e,b2,o2,hde,hbo,_,c⟩:=HA.out (k - 1) oM
   obtain⟨rfl,rfl⟩:b1=b2/\o1=o2:=by simpa using hbo
   have e0:=he.cell (c 0 _ dC rfl)
   simp only[Nat.add_zero] at e0
   have HE:=Lib.hid hde
   clear c hde hbo
   have hk1:decide (0<k)=true:=by simp;omega
   by_cases hle:d.Client<=e.Client
   .
    have hle':decide (d.Client<=e.Client)=true:=by simpa using hle
    refine rx0 Xo fun w1 hx1=>?_
    go_wp2_with fail
    go_ret
    exact⟨congrArg (fun z=>Ending.returned (.bool z)) (Gq (fun hh=>by have:=(hh.at k hlt d HD.out).2.1 e oM HE.out;omega)).symm,he.trans hx1⟩
   have hle':decide (d.Client<=e.Client)=false:=by simpa using hle
   refine rx0 Xo fun w1 hx1=>?_
   have hx2:=hx1
   have HLE:=Lib.hid hle
   clear e0 hle hle'
   go_wp2_with fail
   go_loopw [4] (fun i wr=>∃j:Nat,j<=k/\i=.int .i64 j/\Ext w wr/\Hid (∀i e,i<j->l[i]?=some e->e.Index≠d.Index)) (fun i _=>k - (intOf i).toNat)
   case atStart=>exact⟨0,Nat.zero_le _,rfl,he.trans hx1,Lib.hid (fun i e hi=>by omega)⟩
   case round =>
    obtain⟨wo,hwo⟩:∃wo,wo=wr:=⟨_,rfl⟩
    clear hx1 hx2 d0 d1 d2
    obtain⟨j,hj,rfl,he,HJ⟩:=hrel
    by_cases hjl:j<k
    .
     obtain⟨x,b3,o3,hxx,hbx,_,c⟩:=HA.out j oM
     obtain⟨rfl,rfl⟩:b1=b3/\o1=o3:=by simpa using hbx
     have x2:=he.cell (c 2 _ dC rfl)
     have d2:=he.cell q2
     have HX:=Lib.hid hxx
     clear c hxx hbx
     by_cases hxe:x.Index=d.Index
     .
      have hxe1:decide (x.Index=d.Index)=true:=by simpa using hxe
      have hxe2:(x.Index == d.Index)=true:=by simpa using hxe
      have HXE:=Lib.hid hxe
      clear hxe
      go_wp2_with fail
      go_quiet (fail)
      go_wp2_with fail
      go_ret
      exact⟨congrArg (fun z=>Ending.returned (.bool z)) (Gq (fun hh=>(hh.at k hlt d HD.out).2.2 j x hjl HX.out HXE.out)).symm,by exact Aa⟩
     have hxe1:decide (x.Index=d.Index)=false:=by simpa using hxe
     have hxe2:(x.Index == d.Index)=false:=by simpa using hxe
     have HXE:=Lib.hid hxe
     clear hxe
     go_wp2_with fail
     go_quiet (fail)
     go_wp2_with fail
     go_roundw
     case rel=>exact⟨j+1,by omega,by go_num,by exact Aa,Lib.hid (fun i e hi hl=>by
      by_cases hij:i=j
      .
       subst hij;rw[HX.out] at hl;obtain rfl:=Option.some.inj hl;exact HXE.out
      exact HJ.out i e oM hl)⟩
     case measure=>simp[intOf];omega
    obtain rfl:j=k:=by omega
    go_wp2_with fail
    go_roundw
    case rel=>exact⟨j+1,by omega,by go_num,by exact Aa,Lib.hid (Qf.next HD.out HO.out hp (fun e' hh hl=>by have:=HLE.out;rw[HE.out] at hl;obtain rfl:=Option.some.inj hl;omega) HJ.out)⟩
    case measure=>simp[intOf];omega
  obtain rfl:k=l.length:=by omega
  go_wp2
  go_ret
  exact⟨congrArg (fun z=>Ending.returned (.bool z)) (Jq (Ex.of_at HO.out)).symm,he⟩
theorem dE{l:List Ar}{k:Nat}{d:Ar}(hd:l[k]?=some d):Ej (l.take (k+1))=max (Ej (l.take k)) d.Index:=by
 have hk:=(List.getElem?_eq_some_iff.1 hd).1
 rw[List.take_succ_eq_append_getElem hk,(List.getElem?_eq_some_iff.1 hd).2,bT]
theorem aE(w:World)(v:Value)(l:List Ar)(h:Aj 3 w v (Cz l)):Calls Tryz.prog 358 #[v] w (Cp w (.int .i64 (Ej l))):=by
 obtain⟨a,cap,rfl,hcap,hm,ha⟩:=h.recs (f:=Ar.ints) (fun _=>rfl) dC
 have HA:=Lib.hid ha
 clear ha
 unfold maxLen at hm
 go_enter Tryz.func358,Tryz.ntmps358
 go_wp2
 go_loopw [3,8] (fun m i wr=>∃k:Nat,k<=l.length/\i=.int .i64 k/\(∃z:Int,z=Ej (l.take k)/\m=.int .i64 z)/\Ext w wr) (fun _ i _=>l.length - (intOf i).toNat)
 case atStart=>exact⟨0,Nat.zero_le _,rfl,⟨0,rfl,rfl⟩,Ext.refl _⟩
 case round =>
  obtain⟨k,hk,rfl,⟨z,hz,rfl⟩,he⟩:=hrel
  have HZ:=Lib.hid hz
  clear hz
  by_cases hlt:k<l.length
  .
   obtain⟨d,b1,o1,hd,rfl,hb1,c⟩:=HA.out k hlt
   have d0:=he.cell (c 0 _ dC rfl)
   have d1:=he.cell (c 1 _ dC rfl)
   have d2:=he.cell (c 2 _ dC rfl)
   simp only[Nat.add_zero] at d0
   have HD:=Lib.hid hd
   clear c hd
   go_wp2
   all_goals
    go_roundw
    case rel=>exact⟨k+1,by omega,by go_num,⟨_,by rw[dE HD.out,<-HZ.out];first|rfl|omega,rfl⟩,by exact Aa⟩
    case measure=>simp[intOf];omega
  obtain rfl:k=l.length:=by omega
  go_wp2
  go_ret
  exact⟨by rw[HZ.out,List.take_length];try rfl,he⟩
theorem Tn(w:World)(v:Value)(l:List Ar)(h:Aj 3 w v (Cz l))(hs:Ii l=true):Calls Tryz.prog 376 #[v] w (Cp w (.int .i64 (Ej l))):=by
 have HH:=h
 obtain⟨a,cap,rfl,hcap,hm,ha⟩:=h.recs (f:=Ar.ints) (fun _=>rfl) dC
 have HA:=Lib.hid ha;have HS:=Lib.hid hs
 clear ha hs
 unfold maxLen at hm
 go_enter Tryz.func376,Tryz.ntmps376
 go_wp2_with fail
 refine(Ob _ _ l HH).mono ?_
 rintro e w1⟨rfl,hx1⟩
 rw[HS.out]
 go_wp2_with fail
 go_loopw [3,4] (fun m i wr=>∃k:Nat,k<=l.length/\i=.int .i64 k/\(∃z:Int,z=Ej (l.take k)/\m=.int .i64 z)/\Ext w wr) (fun _ i _=>l.length - (intOf i).toNat)
 case atStart=>exact⟨0,Nat.zero_le _,rfl,⟨0,rfl,rfl⟩,hx1⟩
 case round =>
  obtain⟨k,hk,rfl,⟨z,hz,rfl⟩,he⟩:=hrel
  have HZ:=Lib.hid hz
  clear hz
  by_cases hlt:k<l.length
  .
   obtain⟨d,b1,o1,hd,rfl,hb1,c⟩:=HA.out k hlt
   have d2:=he.cell (c 2 _ dC rfl)
   have HD:=Lib.hid hd
   clear c hd
   go_wp2_with (first|(go_at_call 414;refine(sX _ _ _).mono ?_;rintro e9 w9 ⟨rfl,rfl⟩))
   go_roundw
   case rel=>exact⟨k+1,by omega,by go_num,⟨_,by rw[dE HD.out,<-HZ.out],rfl⟩,by exact Aa⟩
   case measure=>simp[intOf];omega
  obtain rfl:k=l.length:=by omega
  go_wp2
  go_ret
  exact⟨by rw[HZ.out,List.take_length];try rfl,he⟩
theorem dF(w:World)(v:Value)(l:List Ar)(c:Int)(h:Aj 3 w v (Cz l))(hs:Ii l=true):Calls Tryz.prog 354 #[v,.int .i64 c] w (Cp w (.agg #[.int .i64 (Fp l c).Client,.int .i64 (Fp l c).Seq,.int .i64 (Fp l c).Index])):=by
 have HH:=h
 obtain⟨a,cap,rfl,hcap,hm,ha⟩:=h.recs (f:=Ar.ints) (fun _=>rfl) dC
 have HA:=Lib.hid ha;have HS:=Lib.hid hs
 clear ha hs
 unfold maxLen at hm
 obtain⟨W0,hW0⟩:∃W0,W0=w.alloc (.cells #[.int .i64 0,.int .i64 0,.int .i64 0] 290):=⟨_,rfl⟩
 have hE0:Ext w W0:=by rw[hW0];exact(Ext.refl _).alloc _
 have KR:Blk W0 w.heap.size 290 #[.int .i64 0,.int .i64 0,.int .i64 0]:=by rw[hW0];exact Blk.new _ _ _
 go_enter Tryz.func354,Tryz.ntmps354
 go_wp2_with fail
 rw[<-hW0]
 clear hW0
 refine(Ob _ _ l (HH.ext hE0)).mono ?_
 rintro e w1⟨rfl,hx1⟩
 rw[HS.out]
 have hE1:=hE0.trans hx1
 have K1:=KR.ext hx1
 go_wp2_with fail
 go_loopw [5] (fun i wr=>∃k:Nat,k<=l.length/\i=.int .i64 k/\Ext w wr/\Blk wr w.heap.size 290 #[.int .i64 0,.int .i64 0,.int .i64 0]/\Hid ((l.take k).all (fun y=>!decide (y.Client=c))=true)) (fun i _=>l.length - (intOf i).toNat)
 case atStart=>exact⟨0,Nat.zero_le _,rfl,hE1,K1,Lib.hid (by simp)⟩
 case round =>
  obtain⟨k,hk,rfl,he,hb,hn⟩:=hrel
  have C1:=hb.cell;have F1:=hb.frozen;have L1:=hb.lt
  by_cases hlt:k<l.length
  .
   obtain⟨d,b1,o1,hd,rfl,hb1,cc⟩:=HA.out k hlt
   have d0:=he.cell (cc 0 _ dC rfl)
   have d1:=he.cell (cc 1 _ dC rfl)
   have d2:=he.cell (cc 2 _ dC rfl)
   simp only[Nat.add_zero] at d0
   have HD:=Lib.hid hd
   clear cc hd
   by_cases hc:d.Client=c
   .
    have hm1:Fp l c=d:=by
     rw[Fp,Dg,sW (p:=fun m:Ar=>decide (m.Client=c)) HD.out hn.out (by simpa using hc)];rfl
    have HM:=Lib.hid hm1
    have hc1:(d.Client == c)=true:=by simpa using hc
    have hc2:decide (d.Client=c)=true:=by simpa using hc
    clear hm1 hc
    go_wp2_with fail
    refine bodyPost_ret (by simp[results,Tryz.results354,go_sem,C1,F1,L1];try rfl) rfl ?_
    exact⟨by rw[HM.out];try rfl,by exact Aa⟩
   have hc1:(d.Client == c)=false:=by simpa using hc
   have hc2:decide (d.Client=c)=false:=by simpa using hc
   have HC:=Lib.hid hc
   clear hc
   go_wp2_with fail
   go_roundw
   case rel=>exact⟨k+1,by omega,by go_num,by exact Aa,by exact Bv,Lib.hid (by rw[List.take_add_one,HD.out,List.all_append,hn.out];simpa using HC.out)⟩
   case measure=>simp[intOf];omega
  obtain rfl:k=l.length:=by omega
  have hm1:Fp l c=Tl:=by
   have h1:=hn.out
   rw[List.take_length] at h1
   rw[Fp,Dg,nO (p:=fun m:Ar=>decide (m.Client=c)) h1];rfl
  have HM:=Lib.hid hm1
  clear hm1
  go_wp2_with fail
  refine bodyPost_ret (by simp[results,Tryz.results354,go_sem,C1,F1,L1];try rfl) rfl ?_
  exact⟨by rw[HM.out];rfl,by exact Aa⟩
theorem dG(w:World)(v:Value)(l:List Ar)(c q:Int)(h:Aj 3 w v (Cz l))(hs:Ii l=true)(hc:inb c 2 5=true)(hq:inb q 1 2000=true):Calls Tryz.prog 415 #[v,.int .i64 c,.int .i64 q] w (Cp w (.bool (decide ((Fp l c).Seq<q)))):=by
 obtain⟨a,n,k,rfl⟩:=h.shape
 have HS:=Lib.hid hs;have HC:=Lib.hid hc;have HQ:=Lib.hid hq
 clear hs hc hq
 go_enter Tryz.func415,Tryz.ntmps415
 go_wp2_with fail
 refine(Ob _ _ l h).mono ?_
 rintro e w1⟨rfl,hx1⟩
 rw[HS.out]
 go_wp2_with (first|(go_at_call 393;refine(Vm _ _).mono ?_;rintro e9 w9 ⟨rfl,rfl⟩;rw[HC.out])|(go_at_call 394;refine(eM _ _).mono ?_;rintro e9 w9 ⟨rfl,rfl⟩;rw[HQ.out]))
 refine(dF _ _ l c (h.ext hx1) HS.out).mono ?_
 rintro e w2⟨rfl,hx2⟩
 have hfd:∀W:World,(Instr.field 290 (.agg #[.int .i64 (Fp l c).Client,.int .i64 (Fp l c).Seq,.int .i64 (Fp l c).Index]) 1).run Tryz.prog W=.ok (.int .i64 (Fp l c).Seq) W:=fun _=>by kernel_rfl
 go_wp2_with fail
 go_ret
 exact⟨rfl,hx1.trans hx2⟩
def Pm(b:Df):Bool:=match b.Entries with|[]=>true|e::_=>decide (e.Index=b.Base+1)&&decide (b.Time<=e.Time)
noncomputable def Er(b:Df):Bool:=inb b.Base 0 2000&&(Ea b.Time&&((!(decide (b.Base=0)&&decide (b.Time≠0)))&&(decide (b.Entries.length<=20)&&(Jn b.Entries&&Pm b))))
noncomputable def Eh(h:Di):Bool:=inb h.Base 0 2000&&(inb h.Num 0 h.Base&&(Ea h.Time&&((decide (0<h.Base)||decide (h.Time=0))&&(Ii h.Seen&&decide (Ej h.Seen=h.Base)))))
def Jy(t:Jg):Bool:=Fu t.A&&(Fu t.B&&decide (t.A.Kept.length=t.B.Kept.length))
def Oc(t:Jg):Bool:=Jy t&&decide (t.A.Kept.length=22)
def wE:Is:=⟨0,0,0,0⟩
def Lp(e:Aq):Is:=if Dt e then⟨e.Client,e.Seq,e.Index,e.Seq⟩ else wE
structure Qg (b:Df):Prop where
 base:0<=b.Base/\b.Base<=2000
 time:0<=b.Time/\b.Time<=1000000
 len:b.Entries.length<=20
 ents:Ro b.Entries
 first:∀e,b.Entries[0]?=some e->e.Index=b.Base+1/\b.Time<=e.Time
theorem Rp{b:Df}(h:Er b=true):Qg b:=by
 simp only[Er,Bool.and_eq_true,Ea,Dz,decide_eq_true_eq,bS] at h
 obtain⟨h1,h2,h3,h4,h5,h6⟩:=h
 refine⟨h1,h2,h4,h5,fun e he=>?_⟩
 unfold Pm at h6
 cases hb:b.Entries with
 | nil=>rw[hb] at he;simp at he
 | cons x l =>
  rw[hb] at he h6
  simp at he;subst he
  simpa using h6
theorem Qg.idx{b:Df}(h:Qg b):∀(i:Nat) (e:Aq),b.Entries[i]?=some e->e.Index=b.Base+1+i/\Dt e=true
 | 0,e,he=>by
  have h1:=(h.first e he).1
  have hl:=(List.getElem?_eq_some_iff.1 he).1
  exact⟨by simp;omega,(h.ents.2 0 hl e he).1⟩
 | i+1,e,he=>by
  have hl:=(List.getElem?_eq_some_iff.1 he).1
  have hp:b.Entries[i]?=some b.Entries[i]:=List.getElem?_eq_getElem oM
  have h1:=Qg.idx h i _ hp
  have h2:=h.ents.2 (i+1) hl e he
  have h3:=(h2.2 b.Entries[i] oM (by simp)).1
  exact⟨by push_cast;omega,h2.1⟩
theorem Qg.top{b:Df}(h:Qg b):b.Base+b.Entries.length<=2000:=by
 rcases Nat.eq_zero_or_pos b.Entries.length with h0|h0
 .
  have:=h.base;omega
 have hp:b.Entries[b.Entries.length - 1]?=some b.Entries[b.Entries.length - 1]:=List.getElem?_eq_getElem oM
 have h1:=h.idx _ _ hp
 have:=Ki h1.2
 omega
def Mf(b:Df):Int:=b.Base+b.Entries.length
theorem iO(w:World)(Ae:Int)(Ax:Int)(Fy:Value)(Ao:List Aq)(Ek:Aj 9 w Fy (Ds Ao))(e0:Qg (⟨Ae,Ax,Ao⟩:Df)):Calls Tryz.prog 284 #[.agg #[.int .i64 Ae,.int .i64 Ax,Fy]] w (Cp w (.int .i64 (Mf (⟨Ae,Ax,Ao⟩:Df)))):=by
 obtain⟨a2,cap2,rfl,hcap2,hm2,-⟩:=Ek.recs (f:=Aq.ints) (fun _=>rfl) dC
 unfold maxLen at hm2
 have h1:=e0.base;have h2:=e0.len
 have h3:IntKind.i64.wrap (Ae+(Ao.length:Int))=Ae+(Ao.length:Int):=by simp only at h1 h2;rw[IntKind.wrap_i64] <;> omega
 go_enter Tryz.func284,Tryz.ntmps284
 go_wp2
 all_goals
  go_ret
  exact⟨by first|rfl|(simp[Mf];done)|(simp[Mf];omega),by exact Aa⟩
theorem iP(w:World)(Ae:Int)(Ax:Int)(Fy:Value)(Ao:List Aq)(Ek:Aj 9 w Fy (Ds Ao))(e0:Qg (⟨Ae,Ax,Ao⟩:Df)):Calls Tryz.prog 309 #[.agg #[.int .i64 Ae,.int .i64 Ax,Fy]] w (Cp w (.int .i64 (Mf (⟨Ae,Ax,Ao⟩:Df)))):=by
 obtain⟨a2,cap2,rfl,hcap2,hm2,-⟩:=Ek.recs (f:=Aq.ints) (fun _=>rfl) dC
 unfold maxLen at hm2
 have h1:=e0.base;have h2:=e0.len
 have h3:IntKind.i64.wrap (Ae+(Ao.length:Int))=Ae+(Ao.length:Int):=by simp only at h1 h2;rw[IntKind.wrap_i64] <;> omega
 go_enter Tryz.func309,Tryz.ntmps309
 go_wp2
 all_goals
  go_ret
  exact⟨by first|rfl|(simp[Mf];done)|(simp[Mf];omega),by exact Aa⟩
open Classical in
noncomputable def eqB{α:Type}(a b:α):Bool:=decide (a=b)
theorem Fc{α:Type}{a b:α}(h:a=b):eqB a b=true:=by simp[eqB,h]
theorem Au{α:Type}{a b:α}(h:a≠b):eqB a b=false:=by simp[eqB,h]
theorem Sk{α:Type}{a b:α}:eqB a b=true↔a=b:=by simp[eqB]
theorem Jc{α:Type}{l m:List α}{k:Nat}{x:α}(hx:l[k]?=some x)(hy:m[k]?=some x)(h:l.take k=m.take k):l.take (k+1)=m.take (k+1):=by
 rw[List.take_add_one,List.take_add_one,hx,hy,h]
end Go.Proofs.YtkpmbocbbgocbaaGreat
