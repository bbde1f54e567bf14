/- Cl2 Cl3 Cl1 Cl4 Cl Nt0 Nt1 Nt2 Nt WM WK. -/
import Derived.Test.YtkpmbocbbgocbaaGreatQB3
import Derived.Test.YtkpmbocbbgocbaaGreatQB7
set_option linter.unusedSimpArgs false
set_option linter.unusedVariables false
set_option maxHeartbeats 8000000
set_option maxRecDepth 100000
namespace Go.Proofs.YtkpmbocbbgocbaaGreat
open Go.RowKit Go.G8
theorem Ty(w:World)(v:Value)(l:List Da)(h:Aj 7 w v (Fw l)):Calls Tryz.prog 70 #[v] w (Cp w (.bool (Fo l))):=by
 obtain⟨a,cap,rfl,hcap,hm,ha⟩:=h.recs (f:=Da.ints) (fun _=>rfl) dC
 have HA:=Lib.hid ha
 clear ha
 unfold maxLen at hm
 go_enter Tryz.func70,Tryz.ntmps70
 go_wp2
 go_loopw [7] (fun i wr=>∃k:Nat,k<=l.length/\i=.int .i64 k/\Ext w wr/\Hid ((l.take k).all Hj=true)) (fun i _=>l.length - (intOf i).toNat)
 case atStart=>exact⟨0,Nat.zero_le _,rfl,Ext.refl _,Lib.hid (by simp)⟩
 case round =>
  obtain⟨k,hk,rfl,he,hp⟩:=hrel
  by_cases hlt:k<l.length
  .
   obtain⟨d,b1,o1,hd,rfl,hb1,c⟩:=HA.out k hlt
   have d0:=he.cell (c 0 _ dC rfl)
   have d1:=he.cell (c 1 _ dC rfl)
   have d2:=he.cell (c 2 _ dC rfl)
   have d3:=he.cell (c 3 _ dC rfl)
   have d4:=he.cell (c 4 _ dC rfl)
   have d5:=he.cell (c 5 _ dC rfl)
   have d6:=he.cell (c 6 _ dC rfl)
   simp only[Nat.add_zero] at d0
   have HD:=Lib.hid hd
   clear c hd
   cases hb:Hj d
   .
    go_wp2_with (first|(go_at_call 167;refine(iL _ d.Kind d.Op.Kind d.Op.A d.Op.B d.Op.C d.Op.D d.Key).mono ?_;rintro e9 w1 ⟨rfl,hx1⟩;rw[show Hj (⟨d.Kind,⟨d.Op.Kind,d.Op.A,d.Op.B,d.Op.C,d.Op.D⟩,d.Key⟩:Da)=_ from hb]))
    go_ret
    exact⟨by rw[Fo,Nc (p:=Hj) (l:=l) HD.out hb];simp,by exact Aa⟩
   go_wp2_with (first|(go_at_call 167;refine(iL _ d.Kind d.Op.Kind d.Op.A d.Op.B d.Op.C d.Op.D d.Key).mono ?_;rintro e9 w1 ⟨rfl,hx1⟩;rw[show Hj (⟨d.Kind,⟨d.Op.Kind,d.Op.A,d.Op.B,d.Op.C,d.Op.D⟩,d.Key⟩:Da)=_ from hb]))
   go_roundw
   case rel=>exact⟨k+1,by omega,by go_num,by exact Aa,Lib.hid (Ld HD.out hp.out hb)⟩
   case measure=>simp[intOf];omega
  obtain rfl:k=l.length:=by omega
  go_wp2
  go_ret
  have hp':=hp.out
  rw[List.take_length] at hp'
  exact⟨by rw[Fo,hp'];first|rfl|(simp;done)|(simp;omega),he⟩
theorem vJ{p:Prop}(h:p:=by intro KQ hKQ;(repeat (first|go_big_quiet_skip|(go_big_quiet_want;first|(refine Br _ _ _ ?_ rfl rfl (fun wq hq=>?_) ?_;rotate_left;(focus((try have y0:=hq.cell x0);(try have y1:=hq.cell x1);(try have y2:=hq.cell x2);(try have y3:=hq.cell x3);(try have y4:=hq.cell x4);(try have y5:=hq.cell x5);(try have y6:=hq.cell x6);(try have u0:=hq.cell g0);(try have u1:=hq.cell g1);(try have u2:=hq.cell g2);(try have u3:=hq.cell g3);(try have q1:=hq.cell J1);(try have q2:=hq.cell J2);go_simp;first|done|rfl));(try simp only[Ab,Act.put]);go_big_quiet_on)|(go_big_quiet_op;first|go_big_quiet_on|(refine⟨_,fun _ _=>rfl,?_⟩;go_big_quiet_on)|(apply Exists.intro;refine⟨fun wq hq=>?_,?_⟩;(focus(exact Cv hq (by have c:=mL wq d.Kind d.Op.Kind d.Op.A d.Op.B d.Op.C d.Op.D d.Key g.Seq g.Index g.Has g.Value ((k:Int)+1) z;rw[show Me (⟨d.Kind,⟨d.Op.Kind,d.Op.A,d.Op.B,d.Op.C,d.Op.D⟩,d.Key⟩:Da) (⟨g.Seq,g.Index,g.Has,g.Value⟩:Jd) ((k:Int)+1) z=false from hb] at c;exact c)));go_big_quiet_on)))));exact wpQuiet_nil hKQ):p:=h
theorem vK{p:Prop}(h:p:=by intro KQ hKQ;(repeat (first|go_big_quiet_skip|(go_big_quiet_want;first|(refine Br _ _ _ ?_ rfl rfl (fun wq hq=>?_) ?_;rotate_left;(focus((try have y0:=hq.cell x0);(try have y1:=hq.cell x1);(try have y2:=hq.cell x2);(try have y3:=hq.cell x3);(try have y4:=hq.cell x4);(try have y5:=hq.cell x5);(try have y6:=hq.cell x6);(try have u0:=hq.cell g0);(try have u1:=hq.cell g1);(try have u2:=hq.cell g2);(try have u3:=hq.cell g3);(try have q1:=hq.cell J1);(try have q2:=hq.cell J2);go_simp;first|done|rfl));(try simp only[Ab,Act.put]);go_big_quiet_on)|(go_big_quiet_op;first|go_big_quiet_on|(refine⟨_,fun _ _=>rfl,?_⟩;go_big_quiet_on)|(apply Exists.intro;refine⟨fun wq hq=>?_,?_⟩;(focus(exact Cv hq (by have c:=mL wq d.Kind d.Op.Kind d.Op.A d.Op.B d.Op.C d.Op.D d.Key g.Seq g.Index g.Has g.Value ((k:Int)+1) z;rw[show Me (⟨d.Kind,⟨d.Op.Kind,d.Op.A,d.Op.B,d.Op.C,d.Op.D⟩,d.Key⟩:Da) (⟨g.Seq,g.Index,g.Has,g.Value⟩:Jd) ((k:Int)+1) z=true from hb] at c;exact c)));go_big_quiet_on)))));exact wpQuiet_nil hKQ):p:=h
theorem lD(w:World)(Ae:Int)(Fe:Value)(Am:List Da)(Fy:Value)(Ao:List Jd)(Ei:Int)(Ev:Aj 7 w Fe (Fw Am))(Ek:Aj 4 w Fy (Tb Ao)):Calls Tryz.prog 171 #[.agg #[.int .i64 Ae,Fe,Fy,.int .i64 Ei]] w (Cp w (.bool (Dm (⟨Ae,Am,Ao,Ei⟩:El)))):=by
 obtain⟨a1,cap1,rfl,hcap1,hm1,ha1⟩:=Ev.recs (f:=Da.ints) (fun _=>rfl) dC
 obtain⟨a2,cap2,rfl,hcap2,hm2,ha2⟩:=Ek.recs (f:=Jd.ints) (fun _=>rfl) dC
 have HA:=Lib.hid ha1;have HG:=Lib.hid ha2
 clear ha1 ha2
 unfold maxLen at hm1 hm2
 obtain⟨W0,hW0⟩:∃W0,W0=w.alloc (.cells #[.int .i64 Ae,.slice a1 Am.length cap1,.slice a2 Ao.length cap2,.int .i64 Ei] 100):=⟨_,rfl⟩
 have hEw:Ext w W0:=by rw[hW0];exact(Ext.refl _).alloc _
 have KX:Blk W0 w.heap.size 100 #[.int .i64 Ae,.slice a1 Am.length cap1,.slice a2 Ao.length cap2,.int .i64 Ei]:=by rw[hW0];exact Blk.new _ _ _
 have I0:=KX.cell 0;have I1:=KX.cell 1;have I2:=KX.cell 2;have I3:=KX.cell 3
 simp only[List.getElem?_toArray,List.getElem?_cons_zero,List.getElem?_cons_succ] at I0 I1 I2 I3
 go_enter Tryz.func171,Tryz.ntmps171
 go_upto_region 1 with(fail)
 rw[<-hW0]
 clear hW0 KX
 by_cases hid:Ae=4\/Ae=5
 rotate_left
 .
  have i4:(Ae != 4)=true:=by simp;omega
  have i5:(Ae != 5)=true:=by simp;omega
  go_wp2_with fail
  go_ret
  exact⟨by rw[show Dm (⟨Ae,Am,Ao,Ei⟩:El)=false from by simp[Dm];intro h;exact absurd h hid];try rfl,by exact Aa⟩
 have HID:=Lib.hid hid
 have HID2:Hid ((Ae != 4)=false\/((Ae != 4)=true/\(Ae != 5)=false)):=Lib.hid (by rcases hid with rfl|rfl <;> simp)
 clear hid
 cases htd:Fo Am
 .
  rcases HID2.out with i4|⟨i4,i5⟩
  all_goals
   go_wp2_with (first|(go_at_call 70;refine(Ty _ _ Am (Ev.ext Aa)).mono ?_;rintro e9 w1 ⟨rfl,hx1⟩;rw[htd];have J0:=hx1.cell I0;have J1:=hx1.cell I1;have J2:=hx1.cell I2;have J3:=hx1.cell I3;have hLb:w.heap.size<w1.heap.size:=World.block_lt_of_cell? _ _ J1))
   go_ret
   exact⟨by rw[show Dm (⟨Ae,Am,Ao,Ei⟩:El)=false from by simp[Dm,htd]];try rfl,by exact Aa⟩
 have HTODO:=Lib.hid htd
 by_cases hgl:Ao.length<=Am.length
 rotate_left
 .
  have hg1:decide (Am.length<Ao.length)=true:=by simp;omega
  rcases HID2.out with i4|⟨i4,i5⟩
  all_goals
   go_wp2_with (first|(go_at_call 70;refine(Ty _ _ Am (Ev.ext Aa)).mono ?_;rintro e9 w1 ⟨rfl,hx1⟩;rw[htd];have J0:=hx1.cell I0;have J1:=hx1.cell I1;have J2:=hx1.cell I2;have J3:=hx1.cell I3;have hLb:w.heap.size<w1.heap.size:=World.block_lt_of_cell? _ _ J1))
   go_ret
   exact⟨by rw[show Dm (⟨Ae,Am,Ao,Ei⟩:El)=false from by simp[Dm,hgl]];try rfl,by exact Aa⟩
 have hg1:decide (Am.length<Ao.length)=false:=by simp;omega
 go_cut [28] (fun cx0 wx=>cx0=.bool false/\Ext W0 wx)
 case first =>
  rcases HID2.out with i4|⟨i4,i5⟩
  all_goals
   go_wp2_with (first|(go_at_call 70;refine(Ty _ _ Am (Ev.ext Aa)).mono ?_;rintro e9 w1 ⟨rfl,hx1⟩;rw[htd];have J0:=hx1.cell I0;have J1:=hx1.cell I1;have J2:=hx1.cell I2;have J3:=hx1.cell I3;have hLb:w.heap.size<w1.heap.size:=World.block_lt_of_cell? _ _ J1))
   go_meet
   case rel=>exact⟨by first|rfl|(simp[*];done),by exact Aa⟩
 revert wc;intro w1 hcut
 obtain⟨rfl,hx1⟩:=hcut
 have J0:=hx1.cell I0;have J1:=hx1.cell I1;have J2:=hx1.cell I2;have J3:=hx1.cell I3
 have hLb:w.heap.size<w1.heap.size:=World.block_lt_of_cell? _ _ J1
 go_wp2_with fail
 go_loopw [3,32] (fun lv ii wr=>∃k:Nat,k<=Ao.length/\ii=.int .i64 k/\(∃z:Int,Hid (Ny Am Ao k=some z)/\lv=.int .i64 z)/\Ext W0 wr) (fun _ ii _=>Ao.length - (intOf ii).toNat)
 case atStart=>exact⟨0,Nat.zero_le _,rfl,⟨0,Lib.hid rfl,rfl⟩,hx1⟩
 case round =>
  skip
  obtain⟨k,hk,rfl,⟨z,HZ,rfl⟩,he⟩:=hrel
  have hEr:=hEw.trans he
  have J0:=he.cell I0;have J1:=he.cell I1;have J2:=he.cell I2;have J3:=he.cell I3
  by_cases hlt:k<Ao.length
  .
   obtain⟨g,b2,o2,hg,rfl,hbg,cg⟩:=HG.out k hlt
   obtain⟨d,b1,o1,hd,rfl,hb1,cd⟩:=HA.out k oM
   have x0:=hEr.cell (cd 0 _ dC rfl)
   have x1:=hEr.cell (cd 1 _ dC rfl)
   have x2:=hEr.cell (cd 2 _ dC rfl)
   have x3:=hEr.cell (cd 3 _ dC rfl)
   have x4:=hEr.cell (cd 4 _ dC rfl)
   have x5:=hEr.cell (cd 5 _ dC rfl)
   have x6:=hEr.cell (cd 6 _ dC rfl)
   have g0:=hEr.cell (cg 0 _ dC rfl)
   have g1:=hEr.cell (cg 1 _ dC rfl)
   have g2:=hEr.cell (cg 2 _ dC rfl)
   have g3:=hEr.cell (cg 3 _ dC rfl)
   simp only[Nat.add_zero] at x0 g0
   have hwr:IntKind.i64.wrap ((k:Int)+1)=(k:Int)+1:=by rw[IntKind.wrap_i64] <;> omega
   have hLb:w.heap.size<wr.heap.size:=World.block_lt_of_cell? _ _ J1
   have HD:=Lib.hid hd;have HGK:=Lib.hid hg
   clear cd cg hd hg
   cases hb:Me d g ((k:Int)+1) z
   .
    go_upto_region 7 with(fail)
    obtain⟨W,hW⟩:∃W,W=wr.alloc (.cells #[.int .i64 g.Seq,.int .i64 g.Index,.int .i64 g.Has,.int .i64 g.Value] 276):=⟨_,rfl⟩
    have heR:Ext wr W:=by rw[hW];exact(Ext.refl wr).alloc _
    have KG:Blk W wr.heap.size 276 #[.int .i64 g.Seq,.int .i64 g.Index,.int .i64 g.Has,.int .i64 g.Value]:=by rw[hW];exact Blk.new _ _ _
    rw[<-hW]
    clear hW g0 g1 g2 g3
    have g0:=KG.cell 0;have g1:=KG.cell 1;have g2:=KG.cell 2;have g3:=KG.cell 3
    simp only[List.getElem?_toArray,List.getElem?_cons_zero,List.getElem?_cons_succ] at g0 g1 g2 g3
    have x0:=heR.cell x0;have x1:=heR.cell x1;have x2:=heR.cell x2;have x3:=heR.cell x3;have x4:=heR.cell x4;have x5:=heR.cell x5;have x6:=heR.cell x6;have J1:=heR.cell J1;have J2:=heR.cell J2;have J0:=heR.cell J0;have J3:=heR.cell J3
    have hGb:wr.heap.size<W.heap.size:=KG.lt
    refine rx0 vJ fun w1 hx1=>?_
    go_wp2_with fail
    go_ret
    exact⟨by rw[show Dm (⟨Ae,Am,Ao,Ei⟩:El)=false from Yi (c:=(⟨Ae,Am,Ao,Ei⟩:El)) HZ.out HD.out HGK.out hb];try rfl,by exact Aa⟩
   go_upto_region 7 with(fail)
   obtain⟨W,hW⟩:∃W,W=wr.alloc (.cells #[.int .i64 g.Seq,.int .i64 g.Index,.int .i64 g.Has,.int .i64 g.Value] 276):=⟨_,rfl⟩
   have heR:Ext wr W:=by rw[hW];exact(Ext.refl wr).alloc _
   have KG:Blk W wr.heap.size 276 #[.int .i64 g.Seq,.int .i64 g.Index,.int .i64 g.Has,.int .i64 g.Value]:=by rw[hW];exact Blk.new _ _ _
   rw[<-hW]
   clear hW g0 g1 g2 g3
   have g0:=KG.cell 0;have g1:=KG.cell 1;have g2:=KG.cell 2;have g3:=KG.cell 3
   simp only[List.getElem?_toArray,List.getElem?_cons_zero,List.getElem?_cons_succ] at g0 g1 g2 g3
   have x0:=heR.cell x0;have x1:=heR.cell x1;have x2:=heR.cell x2;have x3:=heR.cell x3;have x4:=heR.cell x4;have x5:=heR.cell x5;have x6:=heR.cell x6;have J1:=heR.cell J1;have J2:=heR.cell J2;have J0:=heR.cell J0;have J3:=heR.cell J3
   have hGb:wr.heap.size<W.heap.size:=KG.lt
   refine rx0 vK fun w1 hx1=>?_
   have g1:=hx1.cell g1;have hGb1:wr.heap.size<w1.heap.size:=World.block_lt_of_cell? _ _ g1
   go_wp2_with fail
   go_roundw
   case rel=>exact⟨k+1,by omega,by go_num,⟨g.Index,Lib.hid (by rw[Tj HZ.out HD.out HGK.out,hb];rfl),rfl⟩,by exact Aa⟩
   case measure=>simp[intOf];omega
  obtain rfl:k=Ao.length:=by omega
  have hfin:Dm (⟨Ae,Am,Ao,Ei⟩:El)=decide (Ei=z):=by
   simp only[Dm,HZ.out,HTODO.out,Bool.true_and]
   rw[show decide (Ao.length<=Am.length)=true by simpa using hgl]
   rw[show(decide (Ae=4)||decide (Ae=5))=true by simpa using HID.out]
   by_cases h:Ei=z
   .
    simp[h]
   simp[h];exact fun e=>h e.symm
  have HFIN:=Lib.hid hfin
  clear hfin
  go_wp2_with fail
  go_ret
  exact⟨by rw[HFIN.out];first|rfl|(simp[bq];done),by exact Aa⟩
theorem fM{p:Prop}(h:p:=by intro KQ hKQ;(repeat (first|go_big_quiet_skip|(go_big_quiet_want;first|(refine Br _ _ _ ?_ rfl rfl (fun wq hq=>?_) ?_;rotate_left;(focus((try have y0:=hq.cell x0);(try have y1:=hq.cell x1);(try have y2:=hq.cell x2);(try have y3:=hq.cell x3);(try have y4:=hq.cell x4);(try have y5:=hq.cell x5);(try have y6:=hq.cell x6);go_simp;first|done|rfl));(try simp only[Ab,Act.put]);go_big_quiet_on)|(go_big_quiet_op;first|go_big_quiet_on|(refine⟨_,fun _ _=>rfl,?_⟩;go_big_quiet_on)|(apply Exists.intro;refine⟨fun wq hq=>?_,?_⟩;(focus(first|(go_at_call 323;exact Ce hq (lk wq))|(go_at_call 321;exact Cv hq (by have c:=eO wq Ax Cw Ei Bl Bp;rw[show Nn (⟨Ax,Cw,Ei,Bl,Bp⟩:DOp)=_ from ho] at c;exact c))));go_big_quiet_on)))));exact wpQuiet_nil hKQ):p:=h
theorem dJ(w:World)(Ae:Int)(Ax:Int)(Cw:Int)(Ei:Int)(Bl:Int)(Bp:Int)(Bs:Int):Calls Tryz.prog 214 #[.agg #[.int .i64 Ae,.int .i64 Ax,.int .i64 Cw,.int .i64 Ei,.int .i64 Bl,.int .i64 Bp,.int .i64 Bs]] w (Cp w (.bool (Hj (⟨Ae,⟨Ax,Cw,Ei,Bl,Bp⟩,Bs⟩:Da)))):=by
 by_cases h4:Ae=4
 .
  subst h4
  go_enter Tryz.func214,Tryz.ntmps214
  go_wp2_with (first|(go_at_call 322;refine(mJ _ _).mono ?_;rintro e9 w9 ⟨rfl,rfl⟩))
  all_goals
   go_ret
   exact⟨by first|rfl|(simp[Hj,opZ, *];done)|(simp_all [Hj,opZ,bq,bn];done)|(simp_all [Hj,opZ,bq,bn];omega),by exact Aa⟩
 go_enter Tryz.func214,Tryz.ntmps214
 have hb4:(Ae == 4)=false:=by simpa using h4
 go_upto_region 3 with(fail)
 obtain⟨W,hW⟩:∃W,W=w.alloc (.cells #[.int .i64 Ae,.int .i64 Ax,.int .i64 Cw,.int .i64 Ei,.int .i64 Bl,.int .i64 Bp,.int .i64 Bs] 161):=⟨_,rfl⟩
 have KX:Blk W w.heap.size 161 #[.int .i64 Ae,.int .i64 Ax,.int .i64 Cw,.int .i64 Ei,.int .i64 Bl,.int .i64 Bp,.int .i64 Bs]:=by rw[hW];exact Blk.new _ _ _
 have hEW:Ext w W:=by rw[hW];exact(Ext.refl _).alloc _
 rw[<-hW]
 clear hW
 have x0:W.cell? ⟨w.heap.size,0,none⟩=some (.int .i64 Ae):=KX.cell 0
 have x1:W.cell? ⟨w.heap.size,1,none⟩=some (.int .i64 Ax):=KX.cell 1
 have x2:W.cell? ⟨w.heap.size,2,none⟩=some (.int .i64 Cw):=KX.cell 2
 have x3:W.cell? ⟨w.heap.size,3,none⟩=some (.int .i64 Ei):=KX.cell 3
 have x4:W.cell? ⟨w.heap.size,4,none⟩=some (.int .i64 Bl):=KX.cell 4
 have x5:W.cell? ⟨w.heap.size,5,none⟩=some (.int .i64 Bp):=KX.cell 5
 have x6:W.cell? ⟨w.heap.size,6,none⟩=some (.int .i64 Bs):=KX.cell 6
 obtain⟨kk,hkk⟩:∃kk,kk=Ti Ae:=⟨_,rfl⟩
 have lk:∀wq,Calls Tryz.prog 323 #[.int .i64 Ae] wq (fun e w'=>e=.returned (.int .i64 kk)/\wq=w'):=fun wq=>hkk ▸ tD wq Ae
 by_cases hz:kk=0
 .
  have hz1:(kk != 0)=false:=by simpa using hz
  have hn:¬ (Ae=1\/Ae=2\/Ae=3):=by
   rintro(rfl|rfl|rfl) <;> simp[Ti] at hkk <;> omega
  have HN:=Lib.hid hn
  clear hn hz hkk
  refine rx0 fM fun w1 hx1=>?_
  go_wp2_with fail
  go_ret
  exact⟨by rw[show Hj (⟨Ae,⟨Ax,Cw,Ei,Bl,Bp⟩,Bs⟩:Da)=false from by simp only[Hj];rw[if_neg h4];have:=HN.out;simp;intro h;exact absurd h this];try rfl,by exact Aa⟩
 have hz1:(kk != 0)=true:=by simpa using hz
 have hk:kk=Ae/\(Ae=1\/Ae=2\/Ae=3):=by
  simp only[Ti] at hkk;split at hkk
  .
   omega
  split at hkk
  .
   omega
  split at hkk <;> omega
 have HK:=Lib.hid hk
 clear hk hkk hz
 by_cases h1:Ax=kk
 rotate_left
 .
  have h1b:(Ax == kk)=false:=by simpa using h1
  refine rx0 fM fun w1 hx1=>?_
  go_wp2_with fail
  go_ret
  exact⟨by rw[show Hj (⟨Ae,⟨Ax,Cw,Ei,Bl,Bp⟩,Bs⟩:Da)=false from by simp only[Hj];rw[if_neg h4,show decide (Ax=Ae)=false by have:=HK.out;simp;omega];simp];try rfl,by exact Aa⟩
 have h1b:(Ax == kk)=true:=by simpa using h1
 have H1:=Lib.hid h1
 clear h1
 cases ho:Nn (⟨Ax,Cw,Ei,Bl,Bp⟩:DOp)
 .
  refine rx0 fM fun w1 hx1=>?_
  go_wp2_with fail
  go_ret
  exact⟨by rw[show Hj (⟨Ae,⟨Ax,Cw,Ei,Bl,Bp⟩,Bs⟩:Da)=false from by simp only[Hj];rw[if_neg h4,ho];simp];try rfl,by exact Aa⟩
 refine rx0 fM fun w1 hx1=>?_
 go_wp2_with fail
 go_ret
 exact⟨by rw[show Hj (⟨Ae,⟨Ax,Cw,Ei,Bl,Bp⟩,Bs⟩:Da)=decide (Bs=0) from by simp only[Hj];rw[if_neg h4,ho,show decide (Ax=Ae)=true by have:=HK.out;have:=H1.out;simp;omega];rcases HK.out.2 with h|h|h <;> simp[h]];first|rfl|(simp[bq];done),by exact Aa⟩
theorem vL{p:Prop}(h:p:=by intro KQ hKQ;(repeat (first|go_big_quiet_skip|(go_big_quiet_want;first|(refine Br _ _ _ ?_ rfl rfl (fun wq hq=>?_) ?_;rotate_left;(focus((try have y0:=hq.cell x0);(try have y1:=hq.cell x1);(try have y2:=hq.cell x2);(try have y3:=hq.cell x3);(try have y4:=hq.cell x4);(try have y5:=hq.cell x5);(try have y6:=hq.cell x6);(try have u0:=hq.cell g0);(try have u1:=hq.cell g1);(try have u2:=hq.cell g2);(try have u3:=hq.cell g3);(try have q1:=hq.cell J1);(try have q2:=hq.cell J2);go_simp;first|done|rfl));(try simp only[Ab,Act.put]);go_big_quiet_on)|(go_big_quiet_op;first|go_big_quiet_on|(refine⟨_,fun _ _=>rfl,?_⟩;go_big_quiet_on)|(apply Exists.intro;refine⟨fun wq hq=>?_,?_⟩;(focus(exact Cv hq (by have c:=iK wq d.Kind d.Op.Kind d.Op.A d.Op.B d.Op.C d.Op.D d.Key g.Seq g.Index g.Has g.Value ((k:Int)+1) z;rw[show Me (⟨d.Kind,⟨d.Op.Kind,d.Op.A,d.Op.B,d.Op.C,d.Op.D⟩,d.Key⟩:Da) (⟨g.Seq,g.Index,g.Has,g.Value⟩:Jd) ((k:Int)+1) z=false from hb] at c;exact c)));go_big_quiet_on)))));exact wpQuiet_nil hKQ):p:=h
theorem vM{p:Prop}(h:p:=by intro KQ hKQ;(repeat (first|go_big_quiet_skip|(go_big_quiet_want;first|(refine Br _ _ _ ?_ rfl rfl (fun wq hq=>?_) ?_;rotate_left;(focus((try have y0:=hq.cell x0);(try have y1:=hq.cell x1);(try have y2:=hq.cell x2);(try have y3:=hq.cell x3);(try have y4:=hq.cell x4);(try have y5:=hq.cell x5);(try have y6:=hq.cell x6);(try have u0:=hq.cell g0);(try have u1:=hq.cell g1);(try have u2:=hq.cell g2);(try have u3:=hq.cell g3);(try have q1:=hq.cell J1);(try have q2:=hq.cell J2);go_simp;first|done|rfl));(try simp only[Ab,Act.put]);go_big_quiet_on)|(go_big_quiet_op;first|go_big_quiet_on|(refine⟨_,fun _ _=>rfl,?_⟩;go_big_quiet_on)|(apply Exists.intro;refine⟨fun wq hq=>?_,?_⟩;(focus(exact Cv hq (by have c:=iK wq d.Kind d.Op.Kind d.Op.A d.Op.B d.Op.C d.Op.D d.Key g.Seq g.Index g.Has g.Value ((k:Int)+1) z;rw[show Me (⟨d.Kind,⟨d.Op.Kind,d.Op.A,d.Op.B,d.Op.C,d.Op.D⟩,d.Key⟩:Da) (⟨g.Seq,g.Index,g.Has,g.Value⟩:Jd) ((k:Int)+1) z=true from hb] at c;exact c)));go_big_quiet_on)))));exact wpQuiet_nil hKQ):p:=h
theorem jC(w:World)(Ae:Int)(Fe:Value)(Am:List Da)(Fy:Value)(Ao:List Jd)(Ei:Int)(Ev:Aj 7 w Fe (Fw Am))(Ek:Aj 4 w Fy (Tb Ao)):Calls Tryz.prog 111 #[.agg #[.int .i64 Ae,Fe,Fy,.int .i64 Ei]] w (Cp w (.bool (Dm (⟨Ae,Am,Ao,Ei⟩:El)))):=by
 obtain⟨a1,cap1,rfl,hcap1,hm1,ha1⟩:=Ev.recs (f:=Da.ints) (fun _=>rfl) dC
 obtain⟨a2,cap2,rfl,hcap2,hm2,ha2⟩:=Ek.recs (f:=Jd.ints) (fun _=>rfl) dC
 have HA:=Lib.hid ha1;have HG:=Lib.hid ha2
 clear ha1 ha2
 unfold maxLen at hm1 hm2
 obtain⟨W0,hW0⟩:∃W0,W0=w.alloc (.cells #[.int .i64 Ae,.slice a1 Am.length cap1,.slice a2 Ao.length cap2,.int .i64 Ei] 100):=⟨_,rfl⟩
 have hEw:Ext w W0:=by rw[hW0];exact(Ext.refl _).alloc _
 have KX:Blk W0 w.heap.size 100 #[.int .i64 Ae,.slice a1 Am.length cap1,.slice a2 Ao.length cap2,.int .i64 Ei]:=by rw[hW0];exact Blk.new _ _ _
 have I0:=KX.cell 0;have I1:=KX.cell 1;have I2:=KX.cell 2;have I3:=KX.cell 3
 simp only[List.getElem?_toArray,List.getElem?_cons_zero,List.getElem?_cons_succ] at I0 I1 I2 I3
 go_enter Tryz.func111,Tryz.ntmps111
 go_upto_region 1 with(fail)
 rw[<-hW0]
 clear hW0 KX
 by_cases hid:Ae=4\/Ae=5
 rotate_left
 .
  have i4:(Ae != 4)=true:=by simp;omega
  have i5:(Ae != 5)=true:=by simp;omega
  go_wp2_with fail
  go_ret
  exact⟨by rw[show Dm (⟨Ae,Am,Ao,Ei⟩:El)=false from by simp[Dm];intro h;exact absurd h hid];try rfl,by exact Aa⟩
 have HID:=Lib.hid hid
 have HID2:Hid ((Ae != 4)=false\/((Ae != 4)=true/\(Ae != 5)=false)):=Lib.hid (by rcases hid with rfl|rfl <;> simp)
 clear hid
 by_cases h12:Am.length<=12
 rotate_left
 .
  have h12b:decide (12<Am.length)=true:=by simp;omega
  rcases HID2.out with i4|⟨i4,i5⟩
  all_goals
   go_wp2_with fail
   go_ret
   exact⟨by rw[show Dm (⟨Ae,Am,Ao,Ei⟩:El)=false from by simp[Dm,Fo,h12]];try rfl,by exact Aa⟩
 have h12b:decide (12<Am.length)=false:=by simp;omega
 by_cases hgl:Ao.length<=Am.length
 rotate_left
 .
  have hg1:decide (Am.length<Ao.length)=true:=by simp;omega
  rcases HID2.out with i4|⟨i4,i5⟩
  all_goals
   go_wp2_with fail
   go_ret
   exact⟨by rw[show Dm (⟨Ae,Am,Ao,Ei⟩:El)=false from by simp[Dm,hgl]];try rfl,by exact Aa⟩
 have hg1:decide (Am.length<Ao.length)=false:=by simp;omega
 go_cut [28] (fun cx0 wx=>cx0=.bool false/\Ext W0 wx)
 case first =>
  rcases HID2.out with i4|⟨i4,i5⟩
  all_goals
   go_wp2_with fail
   go_meet
   case rel=>exact⟨by first|rfl|(simp[*];done),by exact Aa⟩
 revert wc;intro w1 hcut
 obtain⟨rfl,hx1⟩:=hcut
 have J0:=hx1.cell I0;have J1:=hx1.cell I1;have J2:=hx1.cell I2;have J3:=hx1.cell I3
 have hLb:w.heap.size<w1.heap.size:=World.block_lt_of_cell? _ _ J1
 go_wp2_with fail
 go_loopw [3] (fun i wr=>∃k:Nat,k<=Am.length/\i=.int .i64 k/\Ext W0 wr/\Hid ((Am.take k).all Hj=true)) (fun i _=>Am.length - (intOf i).toNat)
 case atStart=>exact⟨0,Nat.zero_le _,rfl,hx1,Lib.hid (by simp)⟩
 case round =>
  clear hx1 J0 J1 J2 J3 hLb
  obtain⟨k,hk,rfl,he,hp⟩:=hrel
  have hEr:=hEw.trans he
  have J0:=he.cell I0;have J1:=he.cell I1;have J2:=he.cell I2;have J3:=he.cell I3
  have hLb:w.heap.size<wr.heap.size:=World.block_lt_of_cell? _ _ J1
  by_cases hlt:k<Am.length
  .
   obtain⟨d,b1,o1,hd,rfl,hb1,c⟩:=HA.out k hlt
   have d0:=hEr.cell (c 0 _ dC rfl)
   have d1:=hEr.cell (c 1 _ dC rfl)
   have d2:=hEr.cell (c 2 _ dC rfl)
   have d3:=hEr.cell (c 3 _ dC rfl)
   have d4:=hEr.cell (c 4 _ dC rfl)
   have d5:=hEr.cell (c 5 _ dC rfl)
   have d6:=hEr.cell (c 6 _ dC rfl)
   simp only[Nat.add_zero] at d0
   have HD:=Lib.hid hd
   clear c hd
   cases hb:Hj d
   .
    go_wp2_with (first|(go_at_call 214;refine(dJ _ d.Kind d.Op.Kind d.Op.A d.Op.B d.Op.C d.Op.D d.Key).mono ?_;rintro e9 w1 ⟨rfl,hx1⟩;rw[show Hj (⟨d.Kind,⟨d.Op.Kind,d.Op.A,d.Op.B,d.Op.C,d.Op.D⟩,d.Key⟩:Da)=_ from hb]))
    go_ret
    exact⟨by rw[show Dm (⟨Ae,Am,Ao,Ei⟩:El)=false from by simp only[Dm,Fo];rw[Nc (p:=Hj) (l:=Am) HD.out hb];simp];try rfl,by exact Aa⟩
   go_wp2_with (first|(go_at_call 214;refine(dJ _ d.Kind d.Op.Kind d.Op.A d.Op.B d.Op.C d.Op.D d.Key).mono ?_;rintro e9 w1 ⟨rfl,hx1⟩;rw[show Hj (⟨d.Kind,⟨d.Op.Kind,d.Op.A,d.Op.B,d.Op.C,d.Op.D⟩,d.Key⟩:Da)=_ from hb]))
   go_roundw
   case rel=>exact⟨k+1,by omega,by go_num,by exact Aa,Lib.hid (Ld HD.out hp.out hb)⟩
   case measure=>simp[intOf];omega
  obtain rfl:k=Am.length:=by omega
  have hp':=hp.out
  rw[List.take_length] at hp'
  have HTODO:Hid (Fo Am=true):=Lib.hid (by rw[Fo,hp'];simpa using h12)
  clear hp hp'
  go_wp2_with fail
  go_loopw [4,5] (fun lv ii wr=>∃k:Nat,k<=Ao.length/\ii=.int .i64 k/\(∃z:Int,Hid (Ny Am Ao k=some z)/\lv=.int .i64 z)/\Ext W0 wr) (fun _ ii _=>Ao.length - (intOf ii).toNat)
  case atStart=>exact⟨0,Nat.zero_le _,rfl,⟨0,Lib.hid rfl,rfl⟩,he⟩
  case round =>
   clear he hEr J0 J1 J2 J3 hLb
   obtain⟨k,hk,rfl,⟨z,HZ,rfl⟩,he⟩:=hrel
   have hEr:=hEw.trans he
   have J0:=he.cell I0;have J1:=he.cell I1;have J2:=he.cell I2;have J3:=he.cell I3
   by_cases hlt:k<Ao.length
   .
    obtain⟨g,b2,o2,hg,rfl,hbg,cg⟩:=HG.out k hlt
    obtain⟨d,b1,o1,hd,rfl,hb1,cd⟩:=HA.out k oM
    have x0:=hEr.cell (cd 0 _ dC rfl)
    have x1:=hEr.cell (cd 1 _ dC rfl)
    have x2:=hEr.cell (cd 2 _ dC rfl)
    have x3:=hEr.cell (cd 3 _ dC rfl)
    have x4:=hEr.cell (cd 4 _ dC rfl)
    have x5:=hEr.cell (cd 5 _ dC rfl)
    have x6:=hEr.cell (cd 6 _ dC rfl)
    have g0:=hEr.cell (cg 0 _ dC rfl)
    have g1:=hEr.cell (cg 1 _ dC rfl)
    have g2:=hEr.cell (cg 2 _ dC rfl)
    have g3:=hEr.cell (cg 3 _ dC rfl)
    simp only[Nat.add_zero] at x0 g0
    have hwr:IntKind.i64.wrap ((k:Int)+1)=(k:Int)+1:=by rw[IntKind.wrap_i64] <;> omega
    have hLb:w.heap.size<wr.heap.size:=World.block_lt_of_cell? _ _ J1
    have HD:=Lib.hid hd;have HGK:=Lib.hid hg
    clear cd cg hd hg
    cases hb:Me d g ((k:Int)+1) z
    .
     go_upto_region 12 with(fail)
     refine rx0 vL fun w1 hx1=>?_
     go_wp2_with fail
     go_ret
     exact⟨by rw[show Dm (⟨Ae,Am,Ao,Ei⟩:El)=false from Yi (c:=(⟨Ae,Am,Ao,Ei⟩:El)) HZ.out HD.out HGK.out hb];try rfl,by exact Aa⟩
    go_upto_region 12 with(fail)
    refine rx0 vM fun w1 hx1=>?_
    have g1:=hx1.cell g1;have J2:=hx1.cell J2;have hLb1:w.heap.size<w1.heap.size:=World.block_lt_of_cell? _ _ J2
    go_wp2_with fail
    go_roundw
    case rel=>exact⟨k+1,by omega,by go_num,⟨g.Index,Lib.hid (by rw[Tj HZ.out HD.out HGK.out,hb];rfl),rfl⟩,by exact Aa⟩
    case measure=>simp[intOf];omega
   obtain rfl:k=Ao.length:=by omega
   have hfin:Dm (⟨Ae,Am,Ao,Ei⟩:El)=decide (Ei=z):=by
    simp only[Dm,HZ.out,HTODO.out,Bool.true_and]
    rw[show decide (Ao.length<=Am.length)=true by simpa using hgl]
    rw[show(decide (Ae=4)||decide (Ae=5))=true by simpa using HID.out]
    by_cases h:Ei=z
    .
     simp[h]
    simp[h];exact fun e=>h e.symm
   have HFIN:=Lib.hid hfin
   clear hfin
   go_wp2_with fail
   go_ret
   exact⟨by rw[HFIN.out];first|rfl|(simp[bq];done),by exact Aa⟩
theorem rA(w:World)(Ae:Int):Calls Tryz.prog 81 #[.int .i64 Ae] w (fun e w'=>e=.returned (.bool (inb Ae 0 5))/\w=w'):=by
 have rr:=Lc
 go_enter Tryz.func81,Tryz.ntmps81
 go_wp2_with (first|(go_at_call 176;refine(Cf _ _ _ _  ).mono ?_;rintro e wa ⟨rfl,rfl⟩))
 all_goals
  go_ret
  refine⟨by first|rfl|(simp[*];done)|(simp[*];omega)|(simp_all [bq,bn];done)|(simp_all [bq,bn];omega),by rfl⟩
theorem aW(w:World)(Ae:Int):Calls Tryz.prog 217 #[.int .i64 Ae] w (fun e w'=>e=.returned (.bool (inb Ae 0 5))/\w=w'):=by
 have rr:=Lc
 go_enter Tryz.func217,Tryz.ntmps217
 go_wp2_with (first|(go_at_call 303;refine(Dv _ _ _ _  ).mono ?_;rintro e wa ⟨rfl,rfl⟩))
 all_goals
  go_ret
  refine⟨by first|rfl|(simp[*];done)|(simp[*];omega)|(simp_all [bq,bn];done)|(simp_all [bq,bn];omega),by rfl⟩
theorem mR(w:World)(Ae:Int)(Ew:Int):Calls Tryz.prog 179 #[.int .i64 Ae,.int .i64 Ew] w (fun e w'=>e=.returned (.bool ((inb Ae 0 5&&(inb Ew 0 5&&decide (Ae≠Ew)))))/\w=w'):=by
 have rr:=Lc
 go_enter Tryz.func179,Tryz.ntmps179
 go_wp2_with (first|(go_at_call 81;refine(rA _ _  ).mono ?_;rintro e wa ⟨rfl,rfl⟩))
 all_goals
  go_ret
  refine⟨by first|rfl|(simp[*];done)|(simp[*];omega)|(simp_all [bq,bn];done)|(simp_all [bq,bn];omega),by rfl⟩
theorem lE(w:World)(Ae:Int)(Ax:Int)(Ew:Int)(Mw:Int):Calls Tryz.prog 180 #[.agg #[.int .i64 Ae,.int .i64 Ax],.agg #[.int .i64 Ew,.int .i64 Mw]] w (Cp w (.bool (Il (⟨Ae,Ax⟩:Gf) (⟨Ew,Mw⟩:Gf)))):=by
 have rr:=Lc
 go_enter Tryz.func180,Tryz.ntmps180
 go_wp2
 all_goals
  go_ret
  refine⟨by first|rfl|(simp[Il, *];done)|(simp[Il, *];omega)|(simp_all [Il,bq,bn];done)|(simp_all [Il,bq,bn];omega),?_⟩
  exact xT
theorem fN(w:World)(Ae:Int)(Ax:Int)(Ew:Int)(Mw:Int):Calls Tryz.prog 218 #[.agg #[.int .i64 Ae,.int .i64 Ax],.agg #[.int .i64 Ew,.int .i64 Mw]] w (Cp w (.bool (Il (⟨Ae,Ax⟩:Gf) (⟨Ew,Mw⟩:Gf)))):=by
 have rr:=Lc
 go_enter Tryz.func218,Tryz.ntmps218
 go_wp2
 all_goals
  go_ret
  refine⟨by first|rfl|(simp[Il, *];done)|(simp[Il, *];omega)|(simp_all [Il,bq,bn];done)|(simp_all [Il,bq,bn];omega),?_⟩
  exact xT
theorem mS(w:World)(Ae:Int)(Ax:Int)(Fy:Value)(Ao:List Int)(Ek:Aj 1 w Fy Ao):Calls Tryz.prog 178 #[.agg #[.int .i64 Ae,.int .i64 Ax,Fy]] w (Cp w (.bool (Ng (⟨Ae,Ax,Ao⟩:Qs)))):=by
 obtain⟨a2,cap2,rfl,hcap2,hm2,-⟩:=Ek.one
 unfold maxLen at hm2
 go_enter Tryz.func178,Tryz.ntmps178
 go_wp2_with (first|(go_at_call 179;refine(mR _ _ _).mono ?_;rintro e9 w9 ⟨rfl,rfl⟩)|(go_at_call 276;refine(Qv _ _ Ao (Ek.ext Aa)).mono ?_;rintro e9 w9 ⟨rfl,hx9⟩))
 all_goals
  go_ret
  exact⟨by first|rfl|(simp[Ng, *];done)|(simp_all [Ng,bq,bn];done)|(simp_all [Ng,bq,bn];omega),by exact Aa⟩
theorem jD(w:World)(Ae:Int)(Ax:Int)(Fy:Value)(Ao:List Int)(Ek:Aj 1 w Fy Ao):Calls Tryz.prog 216 #[.agg #[.int .i64 Ae,.int .i64 Ax,Fy]] w (Cp w (.bool (Ng (⟨Ae,Ax,Ao⟩:Qs)))):=by
 obtain⟨a2,cap2,rfl,hcap2,hm2,-⟩:=Ek.one
 unfold maxLen at hm2
 go_enter Tryz.func216,Tryz.ntmps216
 go_wp2_with (first|(go_at_call 217;refine(aW _ _).mono ?_;rintro e9 w9 ⟨rfl,rfl⟩)|(go_at_call 325;refine(Qc _ _ Ao (Ek.ext Aa)).mono ?_;rintro e9 w9 ⟨rfl,hx9⟩))
 all_goals
  go_ret
  exact⟨by first|rfl|(simp[Ng, *];done)|(simp_all [Ng,bq,bn];done)|(simp_all [Ng,bq,bn];omega),by exact Aa⟩
theorem lF(w:World)(v:Value)(l:List Int)(h:Aj 1 w v l):Calls Tryz.prog 82 #[v] w (Cp w (.bool (He l))):=by
 obtain⟨a,cap,rfl,hcap,hm,ha⟩:=h.one
 have HA:=Lib.hid ha
 clear ha
 unfold maxLen at hm
 by_cases h6:l.length=6
 rotate_left
 .
  have h6b:((l.length:Int) != 6)=true:=by simp;omega
  go_enter Tryz.func82,Tryz.ntmps82
  go_wp2
  go_ret
  exact⟨by rw[show He l=false from by simp[He,h6]];try rfl,by exact Aa⟩
 have h6b:((l.length:Int) != 6)=false:=by simp;omega
 have H6:=Lib.hid h6
 clear h6
 go_enter Tryz.func82,Tryz.ntmps82
 go_wp2
 go_loopw [10] (fun i wr=>∃k:Nat,k<=l.length/\i=.int .i64 k/\Ext w wr/\Hid ((l.take k).all Ea=true)) (fun i _=>l.length - (intOf i).toNat)
 case atStart=>exact⟨0,Nat.zero_le _,rfl,Ext.refl _,Lib.hid (by simp)⟩
 case round =>
  obtain⟨k,hk,rfl,he,hp⟩:=hrel
  by_cases hlt:k<l.length
  .
   obtain⟨x,b1,o1,hx,rfl,_,c⟩:=HA.out k hlt
   have d0:=he.cell c
   have HX:=Lib.hid hx
   clear hx c
   cases hb:Ea x
   .
    go_wp2_with (first|(go_at_call 177;refine(Ey _ _).mono ?_;rintro e9 w9 ⟨rfl,rfl⟩;rw[hb]))
    go_ret
    exact⟨by rw[show He l=false from by rw[He,Nc (p:=Ea) (l:=l) HX.out hb];simp];try rfl,he⟩
   go_wp2_with (first|(go_at_call 177;refine(Ey _ _).mono ?_;rintro e9 w9 ⟨rfl,rfl⟩;rw[hb]))
   go_roundw
   case rel=>exact⟨k+1,by omega,by go_num,he,Lib.hid (Ld HX.out hp.out hb)⟩
   case measure=>simp[intOf];omega
  obtain rfl:k=l.length:=by omega
  have hp':=hp.out
  rw[List.take_length] at hp'
  have HP:=Lib.hid hp'
  clear hp hp'
  go_wp2
  go_ret
  have hp':=HP.out
  exact⟨by rw[show He l=true from by simp[He,hp',H6.out]];try rfl,he⟩
theorem jE(w:World)(v:Value)(l:List Int)(h:Aj 1 w v l):Calls Tryz.prog 107 #[v] w (Cp w (.bool (He l))):=by
 obtain⟨a,cap,rfl,hcap,hm,ha⟩:=h.one
 have HA:=Lib.hid ha
 clear ha
 unfold maxLen at hm
 go_enter Tryz.func107,Tryz.ntmps107
 go_wp2
 go_loopw [3] (fun i wr=>∃k:Nat,k<=l.length/\i=.int .i64 k/\Ext w wr/\Hid ((l.take k).all Ea=true)) (fun i _=>l.length - (intOf i).toNat)
 case atStart=>exact⟨0,Nat.zero_le _,rfl,Ext.refl _,Lib.hid (by simp)⟩
 case round =>
  obtain⟨k,hk,rfl,he,hp⟩:=hrel
  by_cases hlt:k<l.length
  .
   obtain⟨x,b1,o1,hx,rfl,_,c⟩:=HA.out k hlt
   have d0:=he.cell c
   have HX:=Lib.hid hx
   clear hx c
   cases hb:Ea x
   .
    go_wp2_with (first|(go_at_call 207;refine(Fh _ _).mono ?_;rintro e9 w9 ⟨rfl,rfl⟩;rw[hb]))
    go_ret
    exact⟨by rw[show He l=false from by rw[He,Nc (p:=Ea) (l:=l) HX.out hb];simp];try rfl,he⟩
   go_wp2_with (first|(go_at_call 207;refine(Fh _ _).mono ?_;rintro e9 w9 ⟨rfl,rfl⟩;rw[hb]))
   go_roundw
   case rel=>exact⟨k+1,by omega,by go_num,he,Lib.hid (Ld HX.out hp.out hb)⟩
   case measure=>simp[intOf];omega
  obtain rfl:k=l.length:=by omega
  have hp':=hp.out
  rw[List.take_length] at hp'
  have HP:=Lib.hid hp'
  clear hp hp'
  go_wp2
  go_ret
  have hp':=HP.out
  exact⟨by rw[show He l=decide (l.length=6) from by simp[He,hp']];by_cases h6:l.length=6 <;> simp[h6,bq] <;> omega,he⟩
theorem Vz{p:Prop}(h:p:=by intro KQ hKQ;(repeat (first|go_big_quiet_skip|(go_big_quiet_want;first|(refine Br _ _ _ ?_ rfl rfl (fun wq hq=>?_) ?_;rotate_left;(focus((try have q0:=hq.cell x0);(try have q1:=hq.cell x1);(try have z0:=hq.cell e0);(try have z1:=hq.cell e1);(try have y1:=hq.cell J1);go_simp;first|done|rfl));(try simp only[Ab,Act.put]);go_big_quiet_on)|(go_big_quiet_op;first|go_big_quiet_on|(refine⟨_,fun _ _=>rfl,?_⟩;go_big_quiet_on)|(apply Exists.intro;refine⟨fun wq hq=>?_,?_⟩;(focus(first|(go_at_call 179;exact Ce hq (by have c:=mR wq d.A d.B;rw[hap] at c;exact c))|(go_at_call 180;exact Cv hq (by have c:=lE wq e.A e.B d.A d.B;rw[show Il (⟨e.A,e.B⟩:Gf) ⟨d.A,d.B⟩=_ from hll] at c;exact c))));go_big_quiet_on)))));exact wpQuiet_nil hKQ):p:=h
theorem tQ(w:World)(Dl:Value)(Ad:List Qs)(Fe:Value)(Am:List Gf)(Dk:Ck 2 w Dl (Ji Ad))(Ev:Aj 2 w Fe (dU Am)):Calls Tryz.prog 83 #[.agg #[Dl,Fe]] w (Cp w (.bool (Gh (⟨Ad,Am⟩:Lu)))):=by
 obtain⟨a0,cap0,rfl,hc0,hm0,ha0⟩:=Ck.letters Dk
 obtain⟨a1,cap1,rfl,hc1,hm1,ha1⟩:=Ev.recs (f:=Gf.ints) (fun _=>rfl) dC
 have HA:=Lib.hid ha0;have HB:=Lib.hid ha1
 clear ha0 ha1
 unfold maxLen at hm0 hm1
 obtain⟨W0,hW0⟩:∃W0,W0=w.alloc (.cells #[.slice a0 Ad.length cap0,.slice a1 Am.length cap1] 104):=⟨_,rfl⟩
 have hEw:Ext w W0:=by rw[hW0];exact(Ext.refl _).alloc _
 have KX0:Blk W0 w.heap.size 104 #[.slice a0 Ad.length cap0,.slice a1 Am.length cap1]:=by rw[hW0];exact Blk.new _ _ _
 have I0:=KX0.cell 0;have I1:=KX0.cell 1
 simp only[List.getElem?_toArray,List.getElem?_cons_zero,List.getElem?_cons_succ] at I0 I1
 go_enter Tryz.func83,Tryz.ntmps83
 go_upto_region 1 with(fail)
 rw[<-hW0]
 clear hW0 KX0
 by_cases h60:Ad.length<=60
 rotate_left
 .
  have h60b:decide (60<Ad.length)=true:=by simp;omega
  go_wp2_with fail
  go_ret
  exact⟨by rw[show Gh (⟨Ad,Am⟩:Lu)=false from by simp[Gh,h60]];try rfl,by exact Aa⟩
 have h60b:decide (60<Ad.length)=false:=by simp;omega
 by_cases h15:Am.length<=15
 rotate_left
 .
  have h15b:decide (15<Am.length)=true:=by simp;omega
  go_wp2_with fail
  go_ret
  exact⟨by rw[show Gh (⟨Ad,Am⟩:Lu)=false from by simp[Gh,h15]];try rfl,by exact Aa⟩
 have h15b:decide (15<Am.length)=false:=by simp;omega
 go_wp2_with fail
 go_loopw [20] (fun i wr=>∃k:Nat,k<=Ad.length/\i=.int .i64 k/\Ext W0 wr/\Hid ((Ad.take k).all Ng=true)) (fun i _=>Ad.length - (intOf i).toNat)
 case atStart=>exact⟨0,Nat.zero_le _,rfl,Ext.refl _,Lib.hid (by simp)⟩
 case round =>
  obtain⟨k,hk,rfl,he,hp⟩:=hrel
  have hEr:=hEw.trans he
  have J0:=he.cell I0;have J1:=he.cell I1
  have hLb:w.heap.size<wr.heap.size:=World.block_lt_of_cell? _ _ J1
  by_cases hlt:k<Ad.length
  .
   obtain⟨d,b1,o1,sa,sn,sc,hd,rfl,_,c0,c1,c2,hin0⟩:=HA.out k hlt
   have d0:=hEr.cell c0;have d1:=hEr.cell c1;have d2:=hEr.cell c2
   have hin:=hin0.ext hEr
   have HD:=Lib.hid hd
   clear c0 c1 c2 hd hin0
   cases hb:Ng d
   .
    go_wp2_with (first|(go_at_call 178;refine(mS _ d.From d.To _ d.Row (hin.ext Aa)).mono ?_;rintro e9 w1 ⟨rfl,hx1⟩;rw[show Ng (⟨d.From,d.To,d.Row⟩:Qs)=_ from hb]))
    go_ret
    exact⟨by rw[show Gh (⟨Ad,Am⟩:Lu)=false from by simp only[Gh];rw[Nc (p:=Ng) (l:=Ad) HD.out hb];simp];try rfl,by exact Aa⟩
   go_wp2_with (first|(go_at_call 178;refine(mS _ d.From d.To _ d.Row (hin.ext Aa)).mono ?_;rintro e9 w1 ⟨rfl,hx1⟩;rw[show Ng (⟨d.From,d.To,d.Row⟩:Qs)=_ from hb]))
   go_roundw
   case rel=>exact⟨k+1,by omega,by go_num,by exact Aa,Lib.hid (Ld HD.out hp.out hb)⟩
   case measure=>simp[intOf];omega
  obtain rfl:k=Ad.length:=by omega
  have hp':=hp.out
  rw[List.take_length] at hp'
  have HP:=Lib.hid hp'
  clear hp hp'
  go_wp2_with fail
  go_loopw [31] (fun i wr=>∃k:Nat,k<=Am.length/\i=.int .i64 k/\Ext W0 wr/\Hid (∀i,i<k->Ri Am i)) (fun i _=>Am.length - (intOf i).toNat)
  case atStart=>exact⟨0,Nat.zero_le _,rfl,he,Lib.hid (fun i hi=>by omega)⟩
  case round =>
   clear he hEr J0 J1 hLb
   obtain⟨k,hk,rfl,he,HO⟩:=hrel
   have hEr:=hEw.trans he
   have J0:=he.cell I0;have J1:=he.cell I1
   have hLb:w.heap.size<wr.heap.size:=World.block_lt_of_cell? _ _ J1
   by_cases hlt:k<Am.length
   .
    obtain⟨d,b1,o1,hd,rfl,hb1,c⟩:=HB.out k hlt
    have d0:=hEr.cell (c 0 _ dC rfl)
    have d1:=hEr.cell (c 1 _ dC rfl)
    simp only[Nat.add_zero] at d0
    have HD:=Lib.hid hd
    clear c hd
    cases p1:inb d.A 0 5
    .
     have hap:(inb d.A 0 5&&(inb d.B 0 5&&decide (d.A≠d.B)))=false:=by rw[p1];rfl
     go_upto_region 12 with(fail)
     obtain⟨W,hW⟩:∃W,W=wr.alloc (.cells #[.int .i64 d.A,.int .i64 d.B] 258):=⟨_,rfl⟩
     have heR:Ext wr W:=by rw[hW];exact(Ext.refl wr).alloc _
     have KX:Blk W wr.heap.size 258 #[.int .i64 d.A,.int .i64 d.B]:=by rw[hW];exact Blk.new _ _ _
     rw[<-hW]
     clear hW
     have x0:=KX.cell 0;have x1:=KX.cell 1
     simp only[List.getElem?_toArray,List.getElem?_cons_zero,List.getElem?_cons_succ] at x0 x1
     have J1:=heR.cell J1
     have hLw:w.heap.size<W.heap.size:=World.block_lt_of_cell? _ _ J1
     refine rx0 Vz fun w1 hx1=>?_
     go_wp2_with fail
     go_ret
     exact⟨by rw[show Gh (⟨Ad,Am⟩:Lu)=false from by simp only[Gh];rw[Iy (fun hh=>by have:=(hh k hlt d HD.out).1;rw[p1] at this;cases this)];simp];try rfl,by exact Aa⟩
    cases p2:inb d.B 0 5
    .
     have hap:(inb d.A 0 5&&(inb d.B 0 5&&decide (d.A≠d.B)))=false:=by rw[p1,p2];rfl
     go_upto_region 12 with(fail)
     obtain⟨W,hW⟩:∃W,W=wr.alloc (.cells #[.int .i64 d.A,.int .i64 d.B] 258):=⟨_,rfl⟩
     have heR:Ext wr W:=by rw[hW];exact(Ext.refl wr).alloc _
     have KX:Blk W wr.heap.size 258 #[.int .i64 d.A,.int .i64 d.B]:=by rw[hW];exact Blk.new _ _ _
     rw[<-hW]
     clear hW
     have x0:=KX.cell 0;have x1:=KX.cell 1
     simp only[List.getElem?_toArray,List.getElem?_cons_zero,List.getElem?_cons_succ] at x0 x1
     have J1:=heR.cell J1
     have hLw:w.heap.size<W.heap.size:=World.block_lt_of_cell? _ _ J1
     refine rx0 Vz fun w1 hx1=>?_
     go_wp2_with fail
     go_ret
     exact⟨by rw[show Gh (⟨Ad,Am⟩:Lu)=false from by simp only[Gh];rw[Iy (fun hh=>by have:=(hh k hlt d HD.out).2.1;rw[p2] at this;cases this)];simp];try rfl,by exact Aa⟩
    by_cases hlt2:d.A<d.B
    rotate_left
    .
     obtain⟨bb,hbb⟩:∃bb,bb=decide (d.A≠d.B):=⟨_,rfl⟩
     have hgt:bb=true->decide (d.B<d.A)=true:=by intro h;rw[hbb] at h;simp at h ⊢;omega
     have hap:(inb d.A 0 5&&(inb d.B 0 5&&decide (d.A≠d.B)))=bb:=by rw[p1,p2,hbb];rfl
     clear hbb
     have HLN:=Lib.hid hlt2
     clear hlt2
     cases bb
     rotate_left
     .
      have hgt:=hgt rfl
      go_upto_region 12 with(fail)
      obtain⟨W,hW⟩:∃W,W=wr.alloc (.cells #[.int .i64 d.A,.int .i64 d.B] 258):=⟨_,rfl⟩
      have heR:Ext wr W:=by rw[hW];exact(Ext.refl wr).alloc _
      have KX:Blk W wr.heap.size 258 #[.int .i64 d.A,.int .i64 d.B]:=by rw[hW];exact Blk.new _ _ _
      rw[<-hW]
      clear hW
      have x0:=KX.cell 0;have x1:=KX.cell 1
      simp only[List.getElem?_toArray,List.getElem?_cons_zero,List.getElem?_cons_succ] at x0 x1
      have J1:=heR.cell J1
      have hLw:w.heap.size<W.heap.size:=World.block_lt_of_cell? _ _ J1
      refine rx0 Vz fun w1 hx1=>?_
      go_wp2_with fail
      go_ret
      exact⟨by rw[show Gh (⟨Ad,Am⟩:Lu)=false from by simp only[Gh];rw[Iy (fun hh=>by have:=(hh k hlt d HD.out).2.2.1;have hn:=HLN.out;omega)];simp];try rfl,by exact Aa⟩
     go_upto_region 12 with(fail)
     obtain⟨W,hW⟩:∃W,W=wr.alloc (.cells #[.int .i64 d.A,.int .i64 d.B] 258):=⟨_,rfl⟩
     have heR:Ext wr W:=by rw[hW];exact(Ext.refl wr).alloc _
     have KX:Blk W wr.heap.size 258 #[.int .i64 d.A,.int .i64 d.B]:=by rw[hW];exact Blk.new _ _ _
     rw[<-hW]
     clear hW
     have x0:=KX.cell 0;have x1:=KX.cell 1
     simp only[List.getElem?_toArray,List.getElem?_cons_zero,List.getElem?_cons_succ] at x0 x1
     have J1:=heR.cell J1
     have hLw:w.heap.size<W.heap.size:=World.block_lt_of_cell? _ _ J1
     refine rx0 Vz fun w1 hx1=>?_
     go_wp2_with fail
     go_ret
     exact⟨by rw[show Gh (⟨Ad,Am⟩:Lu)=false from by simp only[Gh];rw[Iy (fun hh=>by have:=(hh k hlt d HD.out).2.2.1;have hn:=HLN.out;omega)];simp];try rfl,by exact Aa⟩
    have hge:decide (d.B<=d.A)=false:=by simp;omega
    have hgt:decide (d.B<d.A)=false:=by simp;omega
    have hap:(inb d.A 0 5&&(inb d.B 0 5&&decide (d.A≠d.B)))=true:=by rw[p1,p2,show decide (d.A≠d.B)=true by simp;omega];rfl
    have HLT:=Lib.hid hlt2
    clear hlt2
    by_cases hk0:k=0
    .
     have hk1:decide (0<k)=false:=by simp;omega
     have HK:=Lib.hid hk0
     clear hk0
     go_upto_region 12 with(fail)
     obtain⟨W,hW⟩:∃W,W=wr.alloc (.cells #[.int .i64 d.A,.int .i64 d.B] 258):=⟨_,rfl⟩
     have heR:Ext wr W:=by rw[hW];exact(Ext.refl wr).alloc _
     have KX:Blk W wr.heap.size 258 #[.int .i64 d.A,.int .i64 d.B]:=by rw[hW];exact Blk.new _ _ _
     rw[<-hW]
     clear hW
     have x0:=KX.cell 0;have x1:=KX.cell 1
     simp only[List.getElem?_toArray,List.getElem?_cons_zero,List.getElem?_cons_succ] at x0 x1
     have J1:=heR.cell J1
     have hLw:w.heap.size<W.heap.size:=World.block_lt_of_cell? _ _ J1
     refine rx0 Vz fun w1 hx1=>?_
     go_wp2_with fail
     go_roundw
     case rel=>exact⟨k+1,by omega,by go_num,by exact Aa,Lib.hid (Ri.next HD.out HO.out p1 p2 HLT.out (fun e' hh hl=>by have:=HK.out;omega))⟩
     case measure=>simp[intOf];omega
    obtain⟨e,b2,o2,hde,hbo,_,c⟩:=HB.out (k - 1) oM
    obtain⟨rfl,rfl⟩:b1=b2/\o1=o2:=by simpa using hbo
    have e0:=hEr.cell (c 0 _ dC rfl)
    have e1:=hEr.cell (c 1 _ dC rfl)
    simp only[Nat.add_zero] at e0
    have HE:=Lib.hid hde
    clear c hde hbo
    have hk1:decide (0<k)=true:=by simp;omega
    go_upto_region 12 with(fail)
    obtain⟨W,hW⟩:∃W,W=wr.alloc (.cells #[.int .i64 d.A,.int .i64 d.B] 258):=⟨_,rfl⟩
    have heR:Ext wr W:=by rw[hW];exact(Ext.refl wr).alloc _
    have KX:Blk W wr.heap.size 258 #[.int .i64 d.A,.int .i64 d.B]:=by rw[hW];exact Blk.new _ _ _
    rw[<-hW]
    clear hW
    have x0:=KX.cell 0;have x1:=KX.cell 1
    simp only[List.getElem?_toArray,List.getElem?_cons_zero,List.getElem?_cons_succ] at x0 x1
    have J1:=heR.cell J1
    have hLw:w.heap.size<W.heap.size:=World.block_lt_of_cell? _ _ J1
    have e0:=heR.cell e0;have e1:=heR.cell e1
    cases hll:Il e d
    .
     refine rx0 Vz fun w1 hx1=>?_
     go_wp2_with fail
     go_ret
     exact⟨by rw[show Gh (⟨Ad,Am⟩:Lu)=false from by simp only[Gh];rw[Iy (fun hh=>by have:=(hh k hlt d HD.out).2.2.2 e oM HE.out;rw[hll] at this;cases this)];simp];try rfl,by exact Aa⟩
    refine rx0 Vz fun w1 hx1=>?_
    go_wp2_with fail
    go_roundw
    case rel=>exact⟨k+1,by omega,by go_num,by exact Aa,Lib.hid (Ri.next HD.out HO.out p1 p2 HLT.out (fun e' hh hl=>by rw[HE.out] at hl;obtain rfl:=Option.some.inj hl;exact hll))⟩
    case measure=>simp[intOf];omega
   obtain rfl:k=Am.length:=by omega
   go_wp2_with fail
   go_ret
   exact⟨by rw[show Gh (⟨Ad,Am⟩:Lu)=true from by simp only[Gh];rw[HP.out,Tk HO.out];simp[h60,h15]];try rfl,by exact Aa⟩
theorem Xr{p:Prop}(h:p:=by intro KQ hKQ;(repeat (first|go_big_quiet_skip|(go_big_quiet_want;first|(refine Br _ _ _ ?_ rfl rfl (fun wq hq=>?_) ?_;rotate_left;(focus((try have q0:=hq.cell x0);(try have q1:=hq.cell x1);(try have z0:=hq.cell e0);(try have z1:=hq.cell e1);(try have y1:=hq.cell J1);go_simp;first|done|rfl));(try simp only[Ab,Act.put]);go_big_quiet_on)|(go_big_quiet_op;first|go_big_quiet_on|(refine⟨_,fun _ _=>rfl,?_⟩;go_big_quiet_on)|(apply Exists.intro;refine⟨fun wq hq=>?_,?_⟩;(focus(first|(go_at_call 217;first|exact Ce hq (by have c:=aW wq d.A;rw[p1] at c;exact c)|exact Ce hq (by have c:=aW wq d.B;rw[p2] at c;exact c))|(go_at_call 218;exact Cv hq (by have c:=fN wq e.A e.B d.A d.B;rw[show Il (⟨e.A,e.B⟩:Gf) ⟨d.A,d.B⟩=_ from hll] at c;exact c))));go_big_quiet_on)))));exact wpQuiet_nil hKQ):p:=h
theorem rB(w:World)(Dl:Value)(Ad:List Qs)(Fe:Value)(Am:List Gf)(Dk:Ck 2 w Dl (Ji Ad))(Ev:Aj 2 w Fe (dU Am)):Calls Tryz.prog 112 #[.agg #[Dl,Fe]] w (Cp w (.bool (Gh (⟨Ad,Am⟩:Lu)))):=by
 obtain⟨a0,cap0,rfl,hc0,hm0,ha0⟩:=Ck.letters Dk
 obtain⟨a1,cap1,rfl,hc1,hm1,ha1⟩:=Ev.recs (f:=Gf.ints) (fun _=>rfl) dC
 have HA:=Lib.hid ha0;have HB:=Lib.hid ha1
 clear ha0 ha1
 unfold maxLen at hm0 hm1
 obtain⟨W0,hW0⟩:∃W0,W0=w.alloc (.cells #[.slice a0 Ad.length cap0,.slice a1 Am.length cap1] 104):=⟨_,rfl⟩
 have hEw:Ext w W0:=by rw[hW0];exact(Ext.refl _).alloc _
 have KX0:Blk W0 w.heap.size 104 #[.slice a0 Ad.length cap0,.slice a1 Am.length cap1]:=by rw[hW0];exact Blk.new _ _ _
 have I0:=KX0.cell 0;have I1:=KX0.cell 1
 simp only[List.getElem?_toArray,List.getElem?_cons_zero,List.getElem?_cons_succ] at I0 I1
 go_enter Tryz.func112,Tryz.ntmps112
 go_upto_region 1 with(fail)
 rw[<-hW0]
 clear hW0 KX0
 by_cases h60:Ad.length<=60
 rotate_left
 .
  have h60b:decide (60<Ad.length)=true:=by simp;omega
  go_wp2_with fail
  go_ret
  exact⟨by rw[show Gh (⟨Ad,Am⟩:Lu)=false from by simp[Gh,h60]];try rfl,by exact Aa⟩
 have h60b:decide (60<Ad.length)=false:=by simp;omega
 by_cases h15:Am.length<=15
 rotate_left
 .
  have h15b:decide (15<Am.length)=true:=by simp;omega
  go_wp2_with fail
  go_ret
  exact⟨by rw[show Gh (⟨Ad,Am⟩:Lu)=false from by simp[Gh,h15]];try rfl,by exact Aa⟩
 have h15b:decide (15<Am.length)=false:=by simp;omega
 go_wp2_with fail
 go_loopw [3] (fun i wr=>∃k:Nat,k<=Ad.length/\i=.int .i64 k/\Ext W0 wr/\Hid ((Ad.take k).all Ng=true)) (fun i _=>Ad.length - (intOf i).toNat)
 case atStart=>exact⟨0,Nat.zero_le _,rfl,Ext.refl _,Lib.hid (by simp)⟩
 case round =>
  obtain⟨k,hk,rfl,he,hp⟩:=hrel
  have hEr:=hEw.trans he
  have J0:=he.cell I0;have J1:=he.cell I1
  have hLb:w.heap.size<wr.heap.size:=World.block_lt_of_cell? _ _ J1
  by_cases hlt:k<Ad.length
  .
   obtain⟨d,b1,o1,sa,sn,sc,hd,rfl,_,c0,c1,c2,hin0⟩:=HA.out k hlt
   have d0:=hEr.cell c0;have d1:=hEr.cell c1;have d2:=hEr.cell c2
   have hin:=hin0.ext hEr
   have HD:=Lib.hid hd
   clear c0 c1 c2 hd hin0
   cases hb:Ng d
   .
    go_wp2_with (first|(go_at_call 216;refine(jD _ d.From d.To _ d.Row (hin.ext Aa)).mono ?_;rintro e9 w1 ⟨rfl,hx1⟩;rw[show Ng (⟨d.From,d.To,d.Row⟩:Qs)=_ from hb]))
    go_ret
    exact⟨by rw[show Gh (⟨Ad,Am⟩:Lu)=false from by simp only[Gh];rw[Nc (p:=Ng) (l:=Ad) HD.out hb];simp];try rfl,by exact Aa⟩
   go_wp2_with (first|(go_at_call 216;refine(jD _ d.From d.To _ d.Row (hin.ext Aa)).mono ?_;rintro e9 w1 ⟨rfl,hx1⟩;rw[show Ng (⟨d.From,d.To,d.Row⟩:Qs)=_ from hb]))
   go_roundw
   case rel=>exact⟨k+1,by omega,by go_num,by exact Aa,Lib.hid (Ld HD.out hp.out hb)⟩
   case measure=>simp[intOf];omega
  obtain rfl:k=Ad.length:=by omega
  have hp':=hp.out
  rw[List.take_length] at hp'
  have HP:=Lib.hid hp'
  clear hp hp'
  go_wp2_with fail
  go_loopw [4] (fun i wr=>∃k:Nat,k<=Am.length/\i=.int .i64 k/\Ext W0 wr/\Hid (∀i,i<k->Ri Am i)) (fun i _=>Am.length - (intOf i).toNat)
  case atStart=>exact⟨0,Nat.zero_le _,rfl,he,Lib.hid (fun i hi=>by omega)⟩
  case round =>
   clear he hEr J0 J1 hLb
   obtain⟨k,hk,rfl,he,HO⟩:=hrel
   have hEr:=hEw.trans he
   have J0:=he.cell I0;have J1:=he.cell I1
   have hLb:w.heap.size<wr.heap.size:=World.block_lt_of_cell? _ _ J1
   by_cases hlt:k<Am.length
   .
    obtain⟨d,b1,o1,hd,rfl,hb1,c⟩:=HB.out k hlt
    have d0:=hEr.cell (c 0 _ dC rfl)
    have d1:=hEr.cell (c 1 _ dC rfl)
    simp only[Nat.add_zero] at d0
    have HD:=Lib.hid hd
    clear c hd
    cases p1:inb d.A 0 5
    .
     go_upto_region 12 with(fail)
     obtain⟨W,hW⟩:∃W,W=wr.alloc (.cells #[.int .i64 d.A,.int .i64 d.B] 258):=⟨_,rfl⟩
     have heR:Ext wr W:=by rw[hW];exact(Ext.refl wr).alloc _
     have KX:Blk W wr.heap.size 258 #[.int .i64 d.A,.int .i64 d.B]:=by rw[hW];exact Blk.new _ _ _
     rw[<-hW]
     clear hW
     have x0:=KX.cell 0;have x1:=KX.cell 1
     simp only[List.getElem?_toArray,List.getElem?_cons_zero,List.getElem?_cons_succ] at x0 x1
     have J1:=heR.cell J1
     have hLw:w.heap.size<W.heap.size:=World.block_lt_of_cell? _ _ J1
     refine rx0 Xr fun w1 hx1=>?_
     go_wp2_with fail
     go_ret
     exact⟨by rw[show Gh (⟨Ad,Am⟩:Lu)=false from by simp only[Gh];rw[Iy (fun hh=>by have:=(hh k hlt d HD.out).1;rw[p1] at this;cases this)];simp];try rfl,by exact Aa⟩
    cases p2:inb d.B 0 5
    .
     go_upto_region 12 with(fail)
     obtain⟨W,hW⟩:∃W,W=wr.alloc (.cells #[.int .i64 d.A,.int .i64 d.B] 258):=⟨_,rfl⟩
     have heR:Ext wr W:=by rw[hW];exact(Ext.refl wr).alloc _
     have KX:Blk W wr.heap.size 258 #[.int .i64 d.A,.int .i64 d.B]:=by rw[hW];exact Blk.new _ _ _
     rw[<-hW]
     clear hW
     have x0:=KX.cell 0;have x1:=KX.cell 1
     simp only[List.getElem?_toArray,List.getElem?_cons_zero,List.getElem?_cons_succ] at x0 x1
     have J1:=heR.cell J1
     have hLw:w.heap.size<W.heap.size:=World.block_lt_of_cell? _ _ J1
     refine rx0 Xr fun w1 hx1=>?_
     go_wp2_with fail
     go_ret
     exact⟨by rw[show Gh (⟨Ad,Am⟩:Lu)=false from by simp only[Gh];rw[Iy (fun hh=>by have:=(hh k hlt d HD.out).2.1;rw[p2] at this;cases this)];simp];try rfl,by exact Aa⟩
    by_cases hlt2:d.A<d.B
    rotate_left
    .
     have hge:decide (d.A≥d.B)=true:=by simp;omega
     have hge2:decide (d.B<=d.A)=true:=by simp;omega
     have HLN:=Lib.hid hlt2
     clear hlt2
     skip
     go_upto_region 12 with(fail)
     obtain⟨W,hW⟩:∃W,W=wr.alloc (.cells #[.int .i64 d.A,.int .i64 d.B] 258):=⟨_,rfl⟩
     have heR:Ext wr W:=by rw[hW];exact(Ext.refl wr).alloc _
     have KX:Blk W wr.heap.size 258 #[.int .i64 d.A,.int .i64 d.B]:=by rw[hW];exact Blk.new _ _ _
     rw[<-hW]
     clear hW
     have x0:=KX.cell 0;have x1:=KX.cell 1
     simp only[List.getElem?_toArray,List.getElem?_cons_zero,List.getElem?_cons_succ] at x0 x1
     have J1:=heR.cell J1
     have hLw:w.heap.size<W.heap.size:=World.block_lt_of_cell? _ _ J1
     refine rx0 Xr fun w1 hx1=>?_
     go_wp2_with fail
     go_ret
     exact⟨by rw[show Gh (⟨Ad,Am⟩:Lu)=false from by simp only[Gh];rw[Iy (fun hh=>by have:=(hh k hlt d HD.out).2.2.1;have hn:=HLN.out;omega)];simp];try rfl,by exact Aa⟩
    have hge:decide (d.B<=d.A)=false:=by simp;omega
    have hgt:decide (d.B<d.A)=false:=by simp;omega
    have HLT:=Lib.hid hlt2
    clear hlt2
    by_cases hk0:k=0
    .
     have hk1:decide (0<k)=false:=by simp;omega
     have HK:=Lib.hid hk0
     clear hk0
     go_upto_region 12 with(fail)
     obtain⟨W,hW⟩:∃W,W=wr.alloc (.cells #[.int .i64 d.A,.int .i64 d.B] 258):=⟨_,rfl⟩
     have heR:Ext wr W:=by rw[hW];exact(Ext.refl wr).alloc _
     have KX:Blk W wr.heap.size 258 #[.int .i64 d.A,.int .i64 d.B]:=by rw[hW];exact Blk.new _ _ _
     rw[<-hW]
     clear hW
     have x0:=KX.cell 0;have x1:=KX.cell 1
     simp only[List.getElem?_toArray,List.getElem?_cons_zero,List.getElem?_cons_succ] at x0 x1
     have J1:=heR.cell J1
     have hLw:w.heap.size<W.heap.size:=World.block_lt_of_cell? _ _ J1
     refine rx0 Xr fun w1 hx1=>?_
     go_wp2_with fail
     go_roundw
     case rel=>exact⟨k+1,by omega,by go_num,by exact Aa,Lib.hid (Ri.next HD.out HO.out p1 p2 HLT.out (fun e' hh hl=>by have:=HK.out;omega))⟩
     case measure=>simp[intOf];omega
    obtain⟨e,b2,o2,hde,hbo,_,c⟩:=HB.out (k - 1) oM
    obtain⟨rfl,rfl⟩:b1=b2/\o1=o2:=by simpa using hbo
    have e0:=hEr.cell (c 0 _ dC rfl)
    have e1:=hEr.cell (c 1 _ dC rfl)
    simp only[Nat.add_zero] at e0
    have HE:=Lib.hid hde
    clear c hde hbo
    have hk1:decide (0<k)=true:=by simp;omega
    go_upto_region 12 with(fail)
    obtain⟨W,hW⟩:∃W,W=wr.alloc (.cells #[.int .i64 d.A,.int .i64 d.B] 258):=⟨_,rfl⟩
    have heR:Ext wr W:=by rw[hW];exact(Ext.refl wr).alloc _
    have KX:Blk W wr.heap.size 258 #[.int .i64 d.A,.int .i64 d.B]:=by rw[hW];exact Blk.new _ _ _
    rw[<-hW]
    clear hW
    have x0:=KX.cell 0;have x1:=KX.cell 1
    simp only[List.getElem?_toArray,List.getElem?_cons_zero,List.getElem?_cons_succ] at x0 x1
    have J1:=heR.cell J1
    have hLw:w.heap.size<W.heap.size:=World.block_lt_of_cell? _ _ J1
    have e0:=heR.cell e0;have e1:=heR.cell e1
    cases hll:Il e d
    .
     refine rx0 Xr fun w1 hx1=>?_
     go_wp2_with fail
     go_ret
     exact⟨by rw[show Gh (⟨Ad,Am⟩:Lu)=false from by simp only[Gh];rw[Iy (fun hh=>by have:=(hh k hlt d HD.out).2.2.2 e oM HE.out;rw[hll] at this;cases this)];simp];try rfl,by exact Aa⟩
    refine rx0 Xr fun w1 hx1=>?_
    go_wp2_with fail
    go_roundw
    case rel=>exact⟨k+1,by omega,by go_num,by exact Aa,Lib.hid (Ri.next HD.out HO.out p1 p2 HLT.out (fun e' hh hl=>by rw[HE.out] at hl;obtain rfl:=Option.some.inj hl;exact hll))⟩
    case measure=>simp[intOf];omega
   obtain rfl:k=Am.length:=by omega
   go_wp2_with fail
   go_ret
   exact⟨by rw[show Gh (⟨Ad,Am⟩:Lu)=true from by simp only[Gh];rw[HP.out,Tk HO.out];simp[h60,h15]];try rfl,by exact Aa⟩
def Ha:Fl:=⟨0,0,[],[],⟨0,0,0⟩⟩
def Wp(t:Jg):Ap:=⟨t,Ip,Ip,false,⟨0,0,[]⟩,[],0,[]⟩
def Jk(w:Fb)(k:Nat):Bool:=w.Up[k]?.getD false
noncomputable def Ig(n:Ap):Bool:=Jy n.Two&&eqB n (Wp n.Two)
noncomputable def Mn(n:Ap)(up:Bool):Bool:=if up then Gl n else Ig n
noncomputable def Em(s:It):Bool:=Fu s.Disk&&(eqB s.State Ha&&(decide (s.Num=0)&&(decide (s.Last=0)&&decide (s.Busy=0))))
noncomputable def Ho(s:It)(up:Bool):Bool:=if up then Kt s else Em s
noncomputable def Et(s:De)(id:Int)(up:Bool):Bool:=Hd s&&(decide (s.Id=id)&&(up||eqB s (Dw id)))
noncomputable def Hg(w:Fb):Bool:=Et w.Left 2 (Jk w 2)&&Et w.Right 3 (Jk w 3)
def Dh(w:Fb):Bool:=Jk w 4&&(Jk w 5&&(Dm w.Ann&&(decide (w.Ann.Id=4)&&(Dm w.Bob&&decide (w.Bob.Id=5)))))
noncomputable def Ch(w:Fb):Bool:=He w.Clocks&&(decide (w.Up.length=6)&&(Gh w.Net&&(Dh w&&(Hg w&&(Mn w.Log (Jk w 0)&&Ho w.Store (Jk w 1))))))
theorem Lz.leaves{w:World}{p:List Value}{n:Ap}(h:Lz w (.agg p.toArray) n):∃s0 s1 s2 s3 s7 s11 s15 s16 s18:Value,p=[s0,s1,s2,s3,Value.int .i64 n.Head.Num,Value.int .i64 n.Head.Base,Value.int .i64 n.Head.Time,s7,Value.int .i64 n.Next.Num,Value.int .i64 n.Next.Base,Value.int .i64 n.Next.Time,s11,Value.bool n.More,Value.int .i64 n.Book.Base,Value.int .i64 n.Book.Time,s15,s16,Value.int .i64 n.Durable,s18]/\Ck 0 w s0 (Ac n.Two.A.Kept)/\Ck 1 w s1 (Ah n.Two.A.Wait)/\Ck 0 w s2 (Ac n.Two.B.Kept)/\Ck 1 w s3 (Ah n.Two.B.Wait)/\Aj 3 w s7 (Cz n.Head.Seen)/\Aj 3 w s11 (Cz n.Next.Seen)/\Aj 9 w s15 (Ds n.Book.Entries)/\Aj 3 w s16 (Cz n.Seen)/\Aj 4 w s18 (Np n.Owe):=by
 obtain⟨p0,p1,p2,p4,t5,t7,e,l0,l1,l2,l4,g0,g1,g2,g4,g5,g7⟩:=h
 have e:=Ct e
 obtain⟨a0,a1,e0,-,-,d0,d1⟩:=g0
 obtain⟨s0,s1,e00,n0,n1⟩:=d0
 obtain⟨s2,s3,e01,n2,n3⟩:=d1
 obtain⟨s7,e1,n7⟩:=g1
 obtain⟨s11,e2,n11⟩:=g2
 obtain⟨s15,e4,n15⟩:=g4
 have e00:=Ct (M:=[s0,s1]) e00
 have e01:=Ct (M:=[s2,s3]) e01
 have e0:=Ct e0;have e1:=Ct e1;have e2:=Ct e2;have e4:=Ct e4
 subst e00 e01
 subst e0 e1 e2 e4
 subst e
 exact⟨s0,s1,s2,s3,s7,s11,s15,t5,t7,by simp only[List.cons_append,List.nil_append,List.append_nil],n0,n1,n2,n3,n7,n11,n15,g5,g7⟩
theorem Lz.list{w:World}{v:Value}{n:Ap}(h:Lz w v n):∃p:List Value,v=.agg p.toArray:=by
 obtain⟨p0,p1,p2,p4,t5,t7,e,-⟩:=h
 exact⟨_,e⟩
theorem tU{w:World}{v:Value}{n:Ap}(h:Lz w v n):Calls Tryz.prog 182 #[v] w (Cp w (.bool (Gl n))):=by
 obtain⟨p,rfl⟩:=h.list
 obtain⟨s0,s1,s2,s3,s7,s11,s15,s16,s18,rfl,h0,h1,h2,h3,h7,h11,h15,h16,h18⟩:=h.leaves
 exact tM w _ _ _ _ _ _ _ _ n.Head.Num n.Head.Base n.Head.Time _ _ n.Next.Num n.Next.Base n.Next.Time _ _ n.More n.Book.Base n.Book.Time _ _ _ _ n.Durable _ _ h0 h1 h2 h3 h7 h11 h15 h16 h18
theorem rC{w:World}{v:Value}{n:Ap}(h:Lz w v n):Calls Tryz.prog 208 #[v] w (Cp w (.bool (Gl n))):=by
 obtain⟨p,rfl⟩:=h.list
 obtain⟨s0,s1,s2,s3,s7,s11,s15,s16,s18,rfl,h0,h1,h2,h3,h7,h11,h15,h16,h18⟩:=h.leaves
 exact qW w _ _ _ _ _ _ _ _ n.Head.Num n.Head.Base n.Head.Time _ _ n.Next.Num n.Next.Base n.Next.Time _ _ n.More n.Book.Base n.Book.Time _ _ _ _ n.Durable _ _ h0 h1 h2 h3 h7 h11 h15 h16 h18
theorem Gk.leaves{w:World}{v:Value}{c:El}(h:Gk w v c):∃s1 s2:Value,v=.agg #[.int .i64 c.Id,s1,s2,.int .i64 c.Last]/\Aj 7 w s1 (Fw c.Todo)/\Aj 4 w s2 (Tb c.Gots):=by
 obtain⟨s1,s2,e,h1,h2⟩:=h
 exact⟨s1,s2,by rw[e];rfl,h1,h2⟩
theorem Wb{w:World}{v:Value}{c:El}(h:Gk w v c):Calls Tryz.prog 171 #[v] w (Cp w (.bool (Dm c))):=by
 obtain⟨s1,s2,rfl,h1,h2⟩:=h.leaves
 exact lD w c.Id _ _ _ _ c.Last h1 h2
theorem Tz{w:World}{v:Value}{c:El}(h:Gk w v c):Calls Tryz.prog 111 #[v] w (Cp w (.bool (Dm c))):=by
 obtain⟨s1,s2,rfl,h1,h2⟩:=h.leaves
 exact jC w c.Id _ _ _ _ c.Last h1 h2
theorem tV{w:World}{v:Value}{c:Lu}(h:Rq w v c):Calls Tryz.prog 83 #[v] w (Cp w (.bool (Gh c))):=by
 obtain⟨s1,s2,rfl,h1,h2⟩:=h
 exact tQ w _ _ _ _ h1 h2
theorem rD{w:World}{v:Value}{c:Lu}(h:Rq w v c):Calls Tryz.prog 112 #[v] w (Cp w (.bool (Gh c))):=by
 obtain⟨s1,s2,rfl,h1,h2⟩:=h
 exact rB w _ _ _ _ h1 h2
theorem Rt{w:World}{v:Value}{d:Fb}(h:Pn w v d.Up)(hu:d.Up.length=6):∃b off cap,v=.slice (some ⟨b,off,none⟩) 6 cap/\6<=cap/\cap<=maxLen/\b<w.heap.size/\∀k,k<6->w.cell? ⟨b,off+k,none⟩=some (.bool (Jk d k)):=by
 obtain⟨a,cap,rfl,hc,hm,ha⟩:=Sl.bools h
 rw[hu] at hc ha ⊢
 obtain⟨x,b,off,-,rfl,hb,-⟩:=ha 0 dC
 refine⟨b,off,cap,rfl,hc,hm,hb,fun k hk=>?_⟩
 obtain⟨x,b',off',hx,e,-,hcell⟩:=ha k hk
 cases e
 rw[hcell]
 unfold Jk
 rw[hx];rfl
end Go.Proofs.YtkpmbocbbgocbaaGreat
