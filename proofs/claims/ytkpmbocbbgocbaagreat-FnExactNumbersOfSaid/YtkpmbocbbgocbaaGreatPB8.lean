/- WM Cl2 Cl3 Cl1 Cl4 Cl Nt0 Nt1 Nt2 Nt WK. -/
import Derived.Test.YtkpmbocbbgocbaaGreatPB3
import Derived.Test.YtkpmbocbbgocbaaGreatPB7
set_option linter.unusedSimpArgs false
set_option linter.unusedVariables false
set_option maxHeartbeats 8000000
set_option maxRecDepth 100000
namespace Go.Proofs.YtkpmbocbbgocbaaGreat
open Go.RowKit Go.G8
def ED:BU:=⟨0,0,[],[],⟨0,0,0⟩⟩
def WP(t:MV):Bh:=⟨t,GG,GG,false,⟨0,0,[]⟩,[],0,[]⟩
def JI(w:DU)(k:Nat):Bool:=w.Up[k]?.getD false
noncomputable def FY(n:Bh):Bool:=NR n.Two&&eqB n (WP n.Two)
noncomputable def NB(n:Bh)(up:Bool):Bool:=if up then DX n else FY n
noncomputable def zY(s:EW):Bool:=GN s.Disk&&(eqB s.State ED&&(decide (s.Num=0)&&(decide (s.Last=0)&&decide (s.Busy=0))))
noncomputable def FZ(s:EW)(up:Bool):Bool:=if up then KN s else zY s
noncomputable def CM(s:aQ)(id:Int)(up:Bool):Bool:=EU s&&(decide (s.Id=id)&&(up||eqB s (OZ id)))
noncomputable def GB(w:DU):Bool:=CM w.Left 2 (JI w 2)&&CM w.Right 3 (JI w 3)
def wH(w:DU):Bool:=JI w 4&&(JI w 5&&(wW w.Ann&&(decide (w.Ann.Id=4)&&(wW w.Bob&&decide (w.Bob.Id=5)))))
noncomputable def lR(w:DU):Bool:=FU w.Clocks&&(decide (w.Up.length=6)&&(DW w.Net&&(wH w&&(GB w&&(NB w.Log (JI w 0)&&FZ w.Store (JI w 1))))))
theorem aB8(w:World)(v:Value)(l:List wO)(h:Aw 7 w v (TB l)):Calls Tryz.prog 70 #[v] w (Fz w (.bool (RX l))):=by
 obtain⟨a,cap,rfl,hcap,hm,ha⟩:=h.recs (f:=wO.ints) (fun _=>rfl) dC
 have HA:=Lib.hid ha
 clear ha
 unfold maxLen at hm
 go_enter Tryz.func70,Tryz.ntmps70
 go_wp2
 go_loopw [7] (fun i wr=>∃k:Nat,k<=l.length/\i=.int .i64 k/\Ext w wr/\Hid ((l.take k).all ES=true)) (fun i _=>l.length - (intOf i).toNat)
 case atStart=>exact⟨0,Nat.zero_le _,rfl,Ext.refl _,Lib.hid (by simp)⟩
 case round =>
  obtain⟨k,hk,rfl,he,hp⟩:=hrel
  by_cases hlt:k<l.length
  .
   obtain⟨d,b1,o1,hd,rfl,hb1,c⟩:=HA.out k hlt
   have d0:=he.cell (c 0 _ dC rfl)
   have d1:=he.cell (c 1 _ dC rfl)
   have d2:=he.cell (c 2 _ dC rfl)
   have d3:=he.cell (c 3 _ dC rfl)
   have d4:=he.cell (c 4 _ dC rfl)
   have d5:=he.cell (c 5 _ dC rfl)
   have d6:=he.cell (c 6 _ dC rfl)
   simp only[Nat.add_zero] at d0
   have HD:=Lib.hid hd
   clear c hd
   cases hb:ES d
   .
    go_wp2_with (first|(go_at_call 167;refine(aP6 _ d.Kind d.Op.Kind d.Op.A d.Op.B d.Op.C d.Op.D d.Key).mono ?_;rintro e9 w1 ⟨rfl,hx1⟩;rw[show ES (⟨d.Kind,⟨d.Op.Kind,d.Op.A,d.Op.B,d.Op.C,d.Op.D⟩,d.Key⟩:wO)=_ from hb]))
    go_ret
    exact⟨by rw[RX,MU (p:=ES) (l:=l) HD.out hb];simp,by exact Ag⟩
   go_wp2_with (first|(go_at_call 167;refine(aP6 _ d.Kind d.Op.Kind d.Op.A d.Op.B d.Op.C d.Op.D d.Key).mono ?_;rintro e9 w1 ⟨rfl,hx1⟩;rw[show ES (⟨d.Kind,⟨d.Op.Kind,d.Op.A,d.Op.B,d.Op.C,d.Op.D⟩,d.Key⟩:wO)=_ from hb]))
   go_roundw
   case rel=>exact⟨k+1,by omega,by go_num,by exact Ag,Lib.hid (JH HD.out hp.out hb)⟩
   case measure=>simp[intOf];omega
  obtain rfl:k=l.length:=by omega
  go_wp2
  go_ret
  have hp':=hp.out
  rw[List.take_length] at hp'
  exact⟨by rw[RX,hp'];first|rfl|(simp;done)|(simp;omega),he⟩
theorem cM9{p:Prop}(h:p:=by intro KQ hKQ;(repeat (first|go_big_quiet_skip|(go_big_quiet_want;first|(refine Hn _ _ _ ?_ rfl rfl (fun wq hq=>?_) ?_;rotate_left;(focus((try have y0:=hq.cell x0);(try have y1:=hq.cell x1);(try have y2:=hq.cell x2);(try have y3:=hq.cell x3);(try have y4:=hq.cell x4);(try have y5:=hq.cell x5);(try have y6:=hq.cell x6);(try have u0:=hq.cell g0);(try have u1:=hq.cell g1);(try have u2:=hq.cell g2);(try have u3:=hq.cell g3);(try have q1:=hq.cell J1);(try have q2:=hq.cell J2);go_simp;first|done|rfl));(try simp only[Ak,Act.put]);go_big_quiet_on)|(go_big_quiet_op;first|go_big_quiet_on|(refine⟨_,fun _ _=>rfl,?_⟩;go_big_quiet_on)|(apply Exists.intro;refine⟨fun wq hq=>?_,?_⟩;(focus(exact Tu hq (by have c:=bB3 wq d.Kind d.Op.Kind d.Op.A d.Op.B d.Op.C d.Op.D d.Key g.Seq g.Index g.Has g.Value ((k:Int)+1) z;rw[show LN (⟨d.Kind,⟨d.Op.Kind,d.Op.A,d.Op.B,d.Op.C,d.Op.D⟩,d.Key⟩:wO) (⟨g.Seq,g.Index,g.Has,g.Value⟩:FP) ((k:Int)+1) z=false from hb] at c;exact c)));go_big_quiet_on)))));exact wpQuiet_nil hKQ):p:=h
theorem cN0{p:Prop}(h:p:=by intro KQ hKQ;(repeat (first|go_big_quiet_skip|(go_big_quiet_want;first|(refine Hn _ _ _ ?_ rfl rfl (fun wq hq=>?_) ?_;rotate_left;(focus((try have y0:=hq.cell x0);(try have y1:=hq.cell x1);(try have y2:=hq.cell x2);(try have y3:=hq.cell x3);(try have y4:=hq.cell x4);(try have y5:=hq.cell x5);(try have y6:=hq.cell x6);(try have u0:=hq.cell g0);(try have u1:=hq.cell g1);(try have u2:=hq.cell g2);(try have u3:=hq.cell g3);(try have q1:=hq.cell J1);(try have q2:=hq.cell J2);go_simp;first|done|rfl));(try simp only[Ak,Act.put]);go_big_quiet_on)|(go_big_quiet_op;first|go_big_quiet_on|(refine⟨_,fun _ _=>rfl,?_⟩;go_big_quiet_on)|(apply Exists.intro;refine⟨fun wq hq=>?_,?_⟩;(focus(exact Tu hq (by have c:=bB3 wq d.Kind d.Op.Kind d.Op.A d.Op.B d.Op.C d.Op.D d.Key g.Seq g.Index g.Has g.Value ((k:Int)+1) z;rw[show LN (⟨d.Kind,⟨d.Op.Kind,d.Op.A,d.Op.B,d.Op.C,d.Op.D⟩,d.Key⟩:wO) (⟨g.Seq,g.Index,g.Has,g.Value⟩:FP) ((k:Int)+1) z=true from hb] at c;exact c)));go_big_quiet_on)))));exact wpQuiet_nil hKQ):p:=h
theorem aY1(w:World)(Ay:Int)(DL:Value)(Cq:List wO)(CV:Value)(Be:List FP)(wY:Int)(CH:Aw 7 w DL (TB Cq))(zX:Aw 4 w CV (ZA Be)):Calls Tryz.prog 171 #[.agg #[.int .i64 Ay,DL,CV,.int .i64 wY]] w (Fz w (.bool (wW (⟨Ay,Cq,Be,wY⟩:AN)))):=by
 obtain⟨a1,cap1,rfl,hcap1,hm1,ha1⟩:=CH.recs (f:=wO.ints) (fun _=>rfl) dC
 obtain⟨a2,cap2,rfl,hcap2,hm2,ha2⟩:=zX.recs (f:=FP.ints) (fun _=>rfl) dC
 have HA:=Lib.hid ha1;have HG:=Lib.hid ha2
 clear ha1 ha2
 unfold maxLen at hm1 hm2
 obtain⟨W0,hW0⟩:∃W0,W0=w.alloc (.cells #[.int .i64 Ay,.slice a1 Cq.length cap1,.slice a2 Be.length cap2,.int .i64 wY] 100):=⟨_,rfl⟩
 have hEw:Ext w W0:=by rw[hW0];exact(Ext.refl _).alloc _
 have KX:Blk W0 w.heap.size 100 #[.int .i64 Ay,.slice a1 Cq.length cap1,.slice a2 Be.length cap2,.int .i64 wY]:=by rw[hW0];exact Blk.new _ _ _
 have I0:=KX.cell 0;have I1:=KX.cell 1;have I2:=KX.cell 2;have I3:=KX.cell 3
 simp only[List.getElem?_toArray,List.getElem?_cons_zero,List.getElem?_cons_succ] at I0 I1 I2 I3
 go_enter Tryz.func171,Tryz.ntmps171
 go_upto_region 1 with(fail)
 rw[<-hW0]
 clear hW0 KX
 by_cases hid:Ay=4\/Ay=5
 rotate_left
 .
  have i4:(Ay != 4)=true:=by simp;omega
  have i5:(Ay != 5)=true:=by simp;omega
  go_wp2_with fail
  go_ret
  exact⟨by rw[show wW (⟨Ay,Cq,Be,wY⟩:AN)=false from by simp[wW];intro h;exact absurd h hid];try rfl,by exact Ag⟩
 have HID:=Lib.hid hid
 have HID2:Hid ((Ay != 4)=false\/((Ay != 4)=true/\(Ay != 5)=false)):=Lib.hid (by rcases hid with rfl|rfl <;> simp)
 clear hid
 cases htd:RX Cq
 .
  rcases HID2.out with i4|⟨i4,i5⟩
  all_goals
   go_wp2_with (first|(go_at_call 70;refine(aB8 _ _ Cq (CH.ext Ag)).mono ?_;rintro e9 w1 ⟨rfl,hx1⟩;rw[htd];have J0:=hx1.cell I0;have J1:=hx1.cell I1;have J2:=hx1.cell I2;have J3:=hx1.cell I3;have hLb:w.heap.size<w1.heap.size:=World.block_lt_of_cell? _ _ J1))
   go_ret
   exact⟨by rw[show wW (⟨Ay,Cq,Be,wY⟩:AN)=false from by simp[wW,htd]];try rfl,by exact Ag⟩
 have HTODO:=Lib.hid htd
 by_cases hgl:Be.length<=Cq.length
 rotate_left
 .
  have hg1:decide (Cq.length<Be.length)=true:=by simp;omega
  rcases HID2.out with i4|⟨i4,i5⟩
  all_goals
   go_wp2_with (first|(go_at_call 70;refine(aB8 _ _ Cq (CH.ext Ag)).mono ?_;rintro e9 w1 ⟨rfl,hx1⟩;rw[htd];have J0:=hx1.cell I0;have J1:=hx1.cell I1;have J2:=hx1.cell I2;have J3:=hx1.cell I3;have hLb:w.heap.size<w1.heap.size:=World.block_lt_of_cell? _ _ J1))
   go_ret
   exact⟨by rw[show wW (⟨Ay,Cq,Be,wY⟩:AN)=false from by simp[wW,hgl]];try rfl,by exact Ag⟩
 have hg1:decide (Cq.length<Be.length)=false:=by simp;omega
 go_cut [28] (fun cx0 wx=>cx0=.bool false/\Ext W0 wx)
 case first =>
  rcases HID2.out with i4|⟨i4,i5⟩
  all_goals
   go_wp2_with (first|(go_at_call 70;refine(aB8 _ _ Cq (CH.ext Ag)).mono ?_;rintro e9 w1 ⟨rfl,hx1⟩;rw[htd];have J0:=hx1.cell I0;have J1:=hx1.cell I1;have J2:=hx1.cell I2;have J3:=hx1.cell I3;have hLb:w.heap.size<w1.heap.size:=World.block_lt_of_cell? _ _ J1))
   go_meet
   case rel=>exact⟨by first|rfl|(simp[*];done),by exact Ag⟩
 revert wc;intro w1 hcut
 obtain⟨rfl,hx1⟩:=hcut
 have J0:=hx1.cell I0;have J1:=hx1.cell I1;have J2:=hx1.cell I2;have J3:=hx1.cell I3
 have hLb:w.heap.size<w1.heap.size:=World.block_lt_of_cell? _ _ J1
 go_wp2_with fail
 go_loopw [3,32] (fun lv ii wr=>∃k:Nat,k<=Be.length/\ii=.int .i64 k/\(∃z:Int,Hid (OI Cq Be k=some z)/\lv=.int .i64 z)/\Ext W0 wr) (fun _ ii _=>Be.length - (intOf ii).toNat)
 case atStart=>exact⟨0,Nat.zero_le _,rfl,⟨0,Lib.hid rfl,rfl⟩,hx1⟩
 case round =>
  skip
  obtain⟨k,hk,rfl,⟨z,HZ,rfl⟩,he⟩:=hrel
  have hEr:=hEw.trans he
  have J0:=he.cell I0;have J1:=he.cell I1;have J2:=he.cell I2;have J3:=he.cell I3
  by_cases hlt:k<Be.length
  .
   obtain⟨g,b2,o2,hg,rfl,hbg,cg⟩:=HG.out k hlt
   obtain⟨d,b1,o1,hd,rfl,hb1,cd⟩:=HA.out k oM
   have x0:=hEr.cell (cd 0 _ dC rfl)
   have x1:=hEr.cell (cd 1 _ dC rfl)
   have x2:=hEr.cell (cd 2 _ dC rfl)
   have x3:=hEr.cell (cd 3 _ dC rfl)
   have x4:=hEr.cell (cd 4 _ dC rfl)
   have x5:=hEr.cell (cd 5 _ dC rfl)
   have x6:=hEr.cell (cd 6 _ dC rfl)
   have g0:=hEr.cell (cg 0 _ dC rfl)
   have g1:=hEr.cell (cg 1 _ dC rfl)
   have g2:=hEr.cell (cg 2 _ dC rfl)
   have g3:=hEr.cell (cg 3 _ dC rfl)
   simp only[Nat.add_zero] at x0 g0
   have hwr:IntKind.i64.wrap ((k:Int)+1)=(k:Int)+1:=by rw[IntKind.wrap_i64] <;> omega
   have hLb:w.heap.size<wr.heap.size:=World.block_lt_of_cell? _ _ J1
   have HD:=Lib.hid hd;have HGK:=Lib.hid hg
   clear cd cg hd hg
   cases hb:LN d g ((k:Int)+1) z
   .
    go_upto_region 7 with(fail)
    obtain⟨W,hW⟩:∃W,W=wr.alloc (.cells #[.int .i64 g.Seq,.int .i64 g.Index,.int .i64 g.Has,.int .i64 g.Value] 276):=⟨_,rfl⟩
    have heR:Ext wr W:=by rw[hW];exact(Ext.refl wr).alloc _
    have KG:Blk W wr.heap.size 276 #[.int .i64 g.Seq,.int .i64 g.Index,.int .i64 g.Has,.int .i64 g.Value]:=by rw[hW];exact Blk.new _ _ _
    rw[<-hW]
    clear hW g0 g1 g2 g3
    have g0:=KG.cell 0;have g1:=KG.cell 1;have g2:=KG.cell 2;have g3:=KG.cell 3
    simp only[List.getElem?_toArray,List.getElem?_cons_zero,List.getElem?_cons_succ] at g0 g1 g2 g3
    have x0:=heR.cell x0;have x1:=heR.cell x1;have x2:=heR.cell x2;have x3:=heR.cell x3;have x4:=heR.cell x4;have x5:=heR.cell x5;have x6:=heR.cell x6;have J1:=heR.cell J1;have J2:=heR.cell J2;have J0:=heR.cell J0;have J3:=heR.cell J3
    have hGb:wr.heap.size<W.heap.size:=KG.lt
    refine rx0 cM9 fun w1 hx1=>?_
    go_wp2_with fail
    go_ret
    exact⟨by rw[show wW (⟨Ay,Cq,Be,wY⟩:AN)=false from XY (c:=(⟨Ay,Cq,Be,wY⟩:AN)) HZ.out HD.out HGK.out hb];try rfl,by exact Ag⟩
   go_upto_region 7 with(fail)
   obtain⟨W,hW⟩:∃W,W=wr.alloc (.cells #[.int .i64 g.Seq,.int .i64 g.Index,.int .i64 g.Has,.int .i64 g.Value] 276):=⟨_,rfl⟩
   have heR:Ext wr W:=by rw[hW];exact(Ext.refl wr).alloc _
   have KG:Blk W wr.heap.size 276 #[.int .i64 g.Seq,.int .i64 g.Index,.int .i64 g.Has,.int .i64 g.Value]:=by rw[hW];exact Blk.new _ _ _
   rw[<-hW]
   clear hW g0 g1 g2 g3
   have g0:=KG.cell 0;have g1:=KG.cell 1;have g2:=KG.cell 2;have g3:=KG.cell 3
   simp only[List.getElem?_toArray,List.getElem?_cons_zero,List.getElem?_cons_succ] at g0 g1 g2 g3
   have x0:=heR.cell x0;have x1:=heR.cell x1;have x2:=heR.cell x2;have x3:=heR.cell x3;have x4:=heR.cell x4;have x5:=heR.cell x5;have x6:=heR.cell x6;have J1:=heR.cell J1;have J2:=heR.cell J2;have J0:=heR.cell J0;have J3:=heR.cell J3
   have hGb:wr.heap.size<W.heap.size:=KG.lt
   refine rx0 cN0 fun w1 hx1=>?_
   have g1:=hx1.cell g1;have hGb1:wr.heap.size<w1.heap.size:=World.block_lt_of_cell? _ _ g1
   go_wp2_with fail
   go_roundw
   case rel=>exact⟨k+1,by omega,by go_num,⟨g.Index,Lib.hid (by rw[TD HZ.out HD.out HGK.out,hb];rfl),rfl⟩,by exact Ag⟩
   case measure=>simp[intOf];omega
  obtain rfl:k=Be.length:=by omega
  have hfin:wW (⟨Ay,Cq,Be,wY⟩:AN)=decide (wY=z):=by
   simp only[wW,HZ.out,HTODO.out,Bool.true_and]
   rw[show decide (Be.length<=Cq.length)=true by simpa using hgl]
   rw[show(decide (Ay=4)||decide (Ay=5))=true by simpa using HID.out]
   by_cases h:wY=z
   .
    simp[h]
   simp[h];exact fun e=>h e.symm
  have HFIN:=Lib.hid hfin
  clear hfin
  go_wp2_with fail
  go_ret
  exact⟨by rw[HFIN.out];first|rfl|(simp[bq];done),by exact Ag⟩
theorem aL2{p:Prop}(h:p:=by intro KQ hKQ;(repeat (first|go_big_quiet_skip|(go_big_quiet_want;first|(refine Hn _ _ _ ?_ rfl rfl (fun wq hq=>?_) ?_;rotate_left;(focus((try have y0:=hq.cell x0);(try have y1:=hq.cell x1);(try have y2:=hq.cell x2);(try have y3:=hq.cell x3);(try have y4:=hq.cell x4);(try have y5:=hq.cell x5);(try have y6:=hq.cell x6);go_simp;first|done|rfl));(try simp only[Ak,Act.put]);go_big_quiet_on)|(go_big_quiet_op;first|go_big_quiet_on|(refine⟨_,fun _ _=>rfl,?_⟩;go_big_quiet_on)|(apply Exists.intro;refine⟨fun wq hq=>?_,?_⟩;(focus(first|(go_at_call 323;exact Ma hq (lk wq))|(go_at_call 321;exact Tu hq (by have c:=aJ8 wq Ce Uu wY Em Ga;rw[show NC (⟨Ce,Uu,wY,Em,Ga⟩:DOp)=_ from ho] at c;exact c))));go_big_quiet_on)))));exact wpQuiet_nil hKQ):p:=h
theorem aH1(w:World)(Ay:Int)(Ce:Int)(Uu:Int)(wY:Int)(Em:Int)(Ga:Int)(Ih:Int):Calls Tryz.prog 214 #[.agg #[.int .i64 Ay,.int .i64 Ce,.int .i64 Uu,.int .i64 wY,.int .i64 Em,.int .i64 Ga,.int .i64 Ih]] w (Fz w (.bool (ES (⟨Ay,⟨Ce,Uu,wY,Em,Ga⟩,Ih⟩:wO)))):=by
 by_cases h4:Ay=4
 .
  subst h4
  go_enter Tryz.func214,Tryz.ntmps214
  go_wp2_with (first|(go_at_call 322;refine(bB2 _ _).mono ?_;rintro e9 w9 ⟨rfl,rfl⟩))
  all_goals
   go_ret
   exact⟨by first|rfl|(simp[ES,opZ, *];done)|(simp_all [ES,opZ,bq,bn];done)|(simp_all [ES,opZ,bq,bn];omega),by exact Ag⟩
 go_enter Tryz.func214,Tryz.ntmps214
 have hb4:(Ay == 4)=false:=by simpa using h4
 go_upto_region 3 with(fail)
 obtain⟨W,hW⟩:∃W,W=w.alloc (.cells #[.int .i64 Ay,.int .i64 Ce,.int .i64 Uu,.int .i64 wY,.int .i64 Em,.int .i64 Ga,.int .i64 Ih] 161):=⟨_,rfl⟩
 have KX:Blk W w.heap.size 161 #[.int .i64 Ay,.int .i64 Ce,.int .i64 Uu,.int .i64 wY,.int .i64 Em,.int .i64 Ga,.int .i64 Ih]:=by rw[hW];exact Blk.new _ _ _
 have hEW:Ext w W:=by rw[hW];exact(Ext.refl _).alloc _
 rw[<-hW]
 clear hW
 have x0:W.cell? ⟨w.heap.size,0,none⟩=some (.int .i64 Ay):=KX.cell 0
 have x1:W.cell? ⟨w.heap.size,1,none⟩=some (.int .i64 Ce):=KX.cell 1
 have x2:W.cell? ⟨w.heap.size,2,none⟩=some (.int .i64 Uu):=KX.cell 2
 have x3:W.cell? ⟨w.heap.size,3,none⟩=some (.int .i64 wY):=KX.cell 3
 have x4:W.cell? ⟨w.heap.size,4,none⟩=some (.int .i64 Em):=KX.cell 4
 have x5:W.cell? ⟨w.heap.size,5,none⟩=some (.int .i64 Ga):=KX.cell 5
 have x6:W.cell? ⟨w.heap.size,6,none⟩=some (.int .i64 Ih):=KX.cell 6
 obtain⟨kk,hkk⟩:∃kk,kk=TC Ay:=⟨_,rfl⟩
 have lk:∀wq,Calls Tryz.prog 323 #[.int .i64 Ay] wq (fun e w'=>e=.returned (.int .i64 kk)/\wq=w'):=fun wq=>hkk ▸ cF0 wq Ay
 by_cases hz:kk=0
 .
  have hz1:(kk != 0)=false:=by simpa using hz
  have hn:¬ (Ay=1\/Ay=2\/Ay=3):=by
   rintro(rfl|rfl|rfl) <;> simp[TC] at hkk <;> omega
  have HN:=Lib.hid hn
  clear hn hz hkk
  refine rx0 aL2 fun w1 hx1=>?_
  go_wp2_with fail
  go_ret
  exact⟨by rw[show ES (⟨Ay,⟨Ce,Uu,wY,Em,Ga⟩,Ih⟩:wO)=false from by simp only[ES];rw[if_neg h4];have:=HN.out;simp;intro h;exact absurd h this];try rfl,by exact Ag⟩
 have hz1:(kk != 0)=true:=by simpa using hz
 have hk:kk=Ay/\(Ay=1\/Ay=2\/Ay=3):=by
  simp only[TC] at hkk;split at hkk
  .
   omega
  split at hkk
  .
   omega
  split at hkk <;> omega
 have HK:=Lib.hid hk
 clear hk hkk hz
 by_cases h1:Ce=kk
 rotate_left
 .
  have h1b:(Ce == kk)=false:=by simpa using h1
  refine rx0 aL2 fun w1 hx1=>?_
  go_wp2_with fail
  go_ret
  exact⟨by rw[show ES (⟨Ay,⟨Ce,Uu,wY,Em,Ga⟩,Ih⟩:wO)=false from by simp only[ES];rw[if_neg h4,show decide (Ce=Ay)=false by have:=HK.out;simp;omega];simp];try rfl,by exact Ag⟩
 have h1b:(Ce == kk)=true:=by simpa using h1
 have H1:=Lib.hid h1
 clear h1
 cases ho:NC (⟨Ce,Uu,wY,Em,Ga⟩:DOp)
 .
  refine rx0 aL2 fun w1 hx1=>?_
  go_wp2_with fail
  go_ret
  exact⟨by rw[show ES (⟨Ay,⟨Ce,Uu,wY,Em,Ga⟩,Ih⟩:wO)=false from by simp only[ES];rw[if_neg h4,ho];simp];try rfl,by exact Ag⟩
 refine rx0 aL2 fun w1 hx1=>?_
 go_wp2_with fail
 go_ret
 exact⟨by rw[show ES (⟨Ay,⟨Ce,Uu,wY,Em,Ga⟩,Ih⟩:wO)=decide (Ih=0) from by simp only[ES];rw[if_neg h4,ho,show decide (Ce=Ay)=true by have:=HK.out;have:=H1.out;simp;omega];rcases HK.out.2 with h|h|h <;> simp[h]];first|rfl|(simp[bq];done),by exact Ag⟩
theorem cN1{p:Prop}(h:p:=by intro KQ hKQ;(repeat (first|go_big_quiet_skip|(go_big_quiet_want;first|(refine Hn _ _ _ ?_ rfl rfl (fun wq hq=>?_) ?_;rotate_left;(focus((try have y0:=hq.cell x0);(try have y1:=hq.cell x1);(try have y2:=hq.cell x2);(try have y3:=hq.cell x3);(try have y4:=hq.cell x4);(try have y5:=hq.cell x5);(try have y6:=hq.cell x6);(try have u0:=hq.cell g0);(try have u1:=hq.cell g1);(try have u2:=hq.cell g2);(try have u3:=hq.cell g3);(try have q1:=hq.cell J1);(try have q2:=hq.cell J2);go_simp;first|done|rfl));(try simp only[Ak,Act.put]);go_big_quiet_on)|(go_big_quiet_op;first|go_big_quiet_on|(refine⟨_,fun _ _=>rfl,?_⟩;go_big_quiet_on)|(apply Exists.intro;refine⟨fun wq hq=>?_,?_⟩;(focus(exact Tu hq (by have c:=aP5 wq d.Kind d.Op.Kind d.Op.A d.Op.B d.Op.C d.Op.D d.Key g.Seq g.Index g.Has g.Value ((k:Int)+1) z;rw[show LN (⟨d.Kind,⟨d.Op.Kind,d.Op.A,d.Op.B,d.Op.C,d.Op.D⟩,d.Key⟩:wO) (⟨g.Seq,g.Index,g.Has,g.Value⟩:FP) ((k:Int)+1) z=false from hb] at c;exact c)));go_big_quiet_on)))));exact wpQuiet_nil hKQ):p:=h
theorem cN2{p:Prop}(h:p:=by intro KQ hKQ;(repeat (first|go_big_quiet_skip|(go_big_quiet_want;first|(refine Hn _ _ _ ?_ rfl rfl (fun wq hq=>?_) ?_;rotate_left;(focus((try have y0:=hq.cell x0);(try have y1:=hq.cell x1);(try have y2:=hq.cell x2);(try have y3:=hq.cell x3);(try have y4:=hq.cell x4);(try have y5:=hq.cell x5);(try have y6:=hq.cell x6);(try have u0:=hq.cell g0);(try have u1:=hq.cell g1);(try have u2:=hq.cell g2);(try have u3:=hq.cell g3);(try have q1:=hq.cell J1);(try have q2:=hq.cell J2);go_simp;first|done|rfl));(try simp only[Ak,Act.put]);go_big_quiet_on)|(go_big_quiet_op;first|go_big_quiet_on|(refine⟨_,fun _ _=>rfl,?_⟩;go_big_quiet_on)|(apply Exists.intro;refine⟨fun wq hq=>?_,?_⟩;(focus(exact Tu hq (by have c:=aP5 wq d.Kind d.Op.Kind d.Op.A d.Op.B d.Op.C d.Op.D d.Key g.Seq g.Index g.Has g.Value ((k:Int)+1) z;rw[show LN (⟨d.Kind,⟨d.Op.Kind,d.Op.A,d.Op.B,d.Op.C,d.Op.D⟩,d.Key⟩:wO) (⟨g.Seq,g.Index,g.Has,g.Value⟩:FP) ((k:Int)+1) z=true from hb] at c;exact c)));go_big_quiet_on)))));exact wpQuiet_nil hKQ):p:=h
theorem aS0(w:World)(Ay:Int)(DL:Value)(Cq:List wO)(CV:Value)(Be:List FP)(wY:Int)(CH:Aw 7 w DL (TB Cq))(zX:Aw 4 w CV (ZA Be)):Calls Tryz.prog 111 #[.agg #[.int .i64 Ay,DL,CV,.int .i64 wY]] w (Fz w (.bool (wW (⟨Ay,Cq,Be,wY⟩:AN)))):=by
 obtain⟨a1,cap1,rfl,hcap1,hm1,ha1⟩:=CH.recs (f:=wO.ints) (fun _=>rfl) dC
 obtain⟨a2,cap2,rfl,hcap2,hm2,ha2⟩:=zX.recs (f:=FP.ints) (fun _=>rfl) dC
 have HA:=Lib.hid ha1;have HG:=Lib.hid ha2
 clear ha1 ha2
 unfold maxLen at hm1 hm2
 obtain⟨W0,hW0⟩:∃W0,W0=w.alloc (.cells #[.int .i64 Ay,.slice a1 Cq.length cap1,.slice a2 Be.length cap2,.int .i64 wY] 100):=⟨_,rfl⟩
 have hEw:Ext w W0:=by rw[hW0];exact(Ext.refl _).alloc _
 have KX:Blk W0 w.heap.size 100 #[.int .i64 Ay,.slice a1 Cq.length cap1,.slice a2 Be.length cap2,.int .i64 wY]:=by rw[hW0];exact Blk.new _ _ _
 have I0:=KX.cell 0;have I1:=KX.cell 1;have I2:=KX.cell 2;have I3:=KX.cell 3
 simp only[List.getElem?_toArray,List.getElem?_cons_zero,List.getElem?_cons_succ] at I0 I1 I2 I3
 go_enter Tryz.func111,Tryz.ntmps111
 go_upto_region 1 with(fail)
 rw[<-hW0]
 clear hW0 KX
 by_cases hid:Ay=4\/Ay=5
 rotate_left
 .
  have i4:(Ay != 4)=true:=by simp;omega
  have i5:(Ay != 5)=true:=by simp;omega
  go_wp2_with fail
  go_ret
  exact⟨by rw[show wW (⟨Ay,Cq,Be,wY⟩:AN)=false from by simp[wW];intro h;exact absurd h hid];try rfl,by exact Ag⟩
 have HID:=Lib.hid hid
 have HID2:Hid ((Ay != 4)=false\/((Ay != 4)=true/\(Ay != 5)=false)):=Lib.hid (by rcases hid with rfl|rfl <;> simp)
 clear hid
 by_cases h12:Cq.length<=12
 rotate_left
 .
  have h12b:decide (12<Cq.length)=true:=by simp;omega
  rcases HID2.out with i4|⟨i4,i5⟩
  all_goals
   go_wp2_with fail
   go_ret
   exact⟨by rw[show wW (⟨Ay,Cq,Be,wY⟩:AN)=false from by simp[wW,RX,h12]];try rfl,by exact Ag⟩
 have h12b:decide (12<Cq.length)=false:=by simp;omega
 by_cases hgl:Be.length<=Cq.length
 rotate_left
 .
  have hg1:decide (Cq.length<Be.length)=true:=by simp;omega
  rcases HID2.out with i4|⟨i4,i5⟩
  all_goals
   go_wp2_with fail
   go_ret
   exact⟨by rw[show wW (⟨Ay,Cq,Be,wY⟩:AN)=false from by simp[wW,hgl]];try rfl,by exact Ag⟩
 have hg1:decide (Cq.length<Be.length)=false:=by simp;omega
 go_cut [28] (fun cx0 wx=>cx0=.bool false/\Ext W0 wx)
 case first =>
  rcases HID2.out with i4|⟨i4,i5⟩
  all_goals
   go_wp2_with fail
   go_meet
   case rel=>exact⟨by first|rfl|(simp[*];done),by exact Ag⟩
 revert wc;intro w1 hcut
 obtain⟨rfl,hx1⟩:=hcut
 have J0:=hx1.cell I0;have J1:=hx1.cell I1;have J2:=hx1.cell I2;have J3:=hx1.cell I3
 have hLb:w.heap.size<w1.heap.size:=World.block_lt_of_cell? _ _ J1
 go_wp2_with fail
 go_loopw [3] (fun i wr=>∃k:Nat,k<=Cq.length/\i=.int .i64 k/\Ext W0 wr/\Hid ((Cq.take k).all ES=true)) (fun i _=>Cq.length - (intOf i).toNat)
 case atStart=>exact⟨0,Nat.zero_le _,rfl,hx1,Lib.hid (by simp)⟩
 case round =>
  clear hx1 J0 J1 J2 J3 hLb
  obtain⟨k,hk,rfl,he,hp⟩:=hrel
  have hEr:=hEw.trans he
  have J0:=he.cell I0;have J1:=he.cell I1;have J2:=he.cell I2;have J3:=he.cell I3
  have hLb:w.heap.size<wr.heap.size:=World.block_lt_of_cell? _ _ J1
  by_cases hlt:k<Cq.length
  .
   obtain⟨d,b1,o1,hd,rfl,hb1,c⟩:=HA.out k hlt
   have d0:=hEr.cell (c 0 _ dC rfl)
   have d1:=hEr.cell (c 1 _ dC rfl)
   have d2:=hEr.cell (c 2 _ dC rfl)
   have d3:=hEr.cell (c 3 _ dC rfl)
   have d4:=hEr.cell (c 4 _ dC rfl)
   have d5:=hEr.cell (c 5 _ dC rfl)
   have d6:=hEr.cell (c 6 _ dC rfl)
   simp only[Nat.add_zero] at d0
   have HD:=Lib.hid hd
   clear c hd
   cases hb:ES d
   .
    go_wp2_with (first|(go_at_call 214;refine(aH1 _ d.Kind d.Op.Kind d.Op.A d.Op.B d.Op.C d.Op.D d.Key).mono ?_;rintro e9 w1 ⟨rfl,hx1⟩;rw[show ES (⟨d.Kind,⟨d.Op.Kind,d.Op.A,d.Op.B,d.Op.C,d.Op.D⟩,d.Key⟩:wO)=_ from hb]))
    go_ret
    exact⟨by rw[show wW (⟨Ay,Cq,Be,wY⟩:AN)=false from by simp only[wW,RX];rw[MU (p:=ES) (l:=Cq) HD.out hb];simp];try rfl,by exact Ag⟩
   go_wp2_with (first|(go_at_call 214;refine(aH1 _ d.Kind d.Op.Kind d.Op.A d.Op.B d.Op.C d.Op.D d.Key).mono ?_;rintro e9 w1 ⟨rfl,hx1⟩;rw[show ES (⟨d.Kind,⟨d.Op.Kind,d.Op.A,d.Op.B,d.Op.C,d.Op.D⟩,d.Key⟩:wO)=_ from hb]))
   go_roundw
   case rel=>exact⟨k+1,by omega,by go_num,by exact Ag,Lib.hid (JH HD.out hp.out hb)⟩
   case measure=>simp[intOf];omega
  obtain rfl:k=Cq.length:=by omega
  have hp':=hp.out
  rw[List.take_length] at hp'
  have HTODO:Hid (RX Cq=true):=Lib.hid (by rw[RX,hp'];simpa using h12)
  clear hp hp'
  go_wp2_with fail
  go_loopw [4,5] (fun lv ii wr=>∃k:Nat,k<=Be.length/\ii=.int .i64 k/\(∃z:Int,Hid (OI Cq Be k=some z)/\lv=.int .i64 z)/\Ext W0 wr) (fun _ ii _=>Be.length - (intOf ii).toNat)
  case atStart=>exact⟨0,Nat.zero_le _,rfl,⟨0,Lib.hid rfl,rfl⟩,he⟩
  case round =>
   clear he hEr J0 J1 J2 J3 hLb
   obtain⟨k,hk,rfl,⟨z,HZ,rfl⟩,he⟩:=hrel
   have hEr:=hEw.trans he
   have J0:=he.cell I0;have J1:=he.cell I1;have J2:=he.cell I2;have J3:=he.cell I3
   by_cases hlt:k<Be.length
   .
    obtain⟨g,b2,o2,hg,rfl,hbg,cg⟩:=HG.out k hlt
    obtain⟨d,b1,o1,hd,rfl,hb1,cd⟩:=HA.out k oM
    have x0:=hEr.cell (cd 0 _ dC rfl)
    have x1:=hEr.cell (cd 1 _ dC rfl)
    have x2:=hEr.cell (cd 2 _ dC rfl)
    have x3:=hEr.cell (cd 3 _ dC rfl)
    have x4:=hEr.cell (cd 4 _ dC rfl)
    have x5:=hEr.cell (cd 5 _ dC rfl)
    have x6:=hEr.cell (cd 6 _ dC rfl)
    have g0:=hEr.cell (cg 0 _ dC rfl)
    have g1:=hEr.cell (cg 1 _ dC rfl)
    have g2:=hEr.cell (cg 2 _ dC rfl)
    have g3:=hEr.cell (cg 3 _ dC rfl)
    simp only[Nat.add_zero] at x0 g0
    have hwr:IntKind.i64.wrap ((k:Int)+1)=(k:Int)+1:=by rw[IntKind.wrap_i64] <;> omega
    have hLb:w.heap.size<wr.heap.size:=World.block_lt_of_cell? _ _ J1
    have HD:=Lib.hid hd;have HGK:=Lib.hid hg
    clear cd cg hd hg
    cases hb:LN d g ((k:Int)+1) z
    .
     go_upto_region 12 with(fail)
     refine rx0 cN1 fun w1 hx1=>?_
     go_wp2_with fail
     go_ret
     exact⟨by rw[show wW (⟨Ay,Cq,Be,wY⟩:AN)=false from XY (c:=(⟨Ay,Cq,Be,wY⟩:AN)) HZ.out HD.out HGK.out hb];try rfl,by exact Ag⟩
    go_upto_region 12 with(fail)
    refine rx0 cN2 fun w1 hx1=>?_
    have g1:=hx1.cell g1;have J2:=hx1.cell J2;have hLb1:w.heap.size<w1.heap.size:=World.block_lt_of_cell? _ _ J2
    go_wp2_with fail
    go_roundw
    case rel=>exact⟨k+1,by omega,by go_num,⟨g.Index,Lib.hid (by rw[TD HZ.out HD.out HGK.out,hb];rfl),rfl⟩,by exact Ag⟩
    case measure=>simp[intOf];omega
   obtain rfl:k=Be.length:=by omega
   have hfin:wW (⟨Ay,Cq,Be,wY⟩:AN)=decide (wY=z):=by
    simp only[wW,HZ.out,HTODO.out,Bool.true_and]
    rw[show decide (Be.length<=Cq.length)=true by simpa using hgl]
    rw[show(decide (Ay=4)||decide (Ay=5))=true by simpa using HID.out]
    by_cases h:wY=z
    .
     simp[h]
    simp[h];exact fun e=>h e.symm
   have HFIN:=Lib.hid hfin
   clear hfin
   go_wp2_with fail
   go_ret
   exact⟨by rw[HFIN.out];first|rfl|(simp[bq];done),by exact Ag⟩
theorem bX6(w:World)(Ay:Int):Calls Tryz.prog 81 #[.int .i64 Ay] w (fun e w'=>e=.returned (.bool (inb Ay 0 5))/\w=w'):=by
 have rr:=JM
 go_enter Tryz.func81,Tryz.ntmps81
 go_wp2_with (first|(go_at_call 176;refine(Og _ _ _ _  ).mono ?_;rintro e wa ⟨rfl,rfl⟩))
 all_goals
  go_ret
  refine⟨by first|rfl|(simp[*];done)|(simp[*];omega)|(simp_all [bq,bn];done)|(simp_all [bq,bn];omega),by rfl⟩
theorem aB9(w:World)(Ay:Int):Calls Tryz.prog 217 #[.int .i64 Ay] w (fun e w'=>e=.returned (.bool (inb Ay 0 5))/\w=w'):=by
 have rr:=JM
 go_enter Tryz.func217,Tryz.ntmps217
 go_wp2_with (first|(go_at_call 303;refine(wR _ _ _ _  ).mono ?_;rintro e wa ⟨rfl,rfl⟩))
 all_goals
  go_ret
  refine⟨by first|rfl|(simp[*];done)|(simp[*];omega)|(simp_all [bq,bn];done)|(simp_all [bq,bn];omega),by rfl⟩
theorem bC7(w:World)(Ay:Int)(AL:Int):Calls Tryz.prog 179 #[.int .i64 Ay,.int .i64 AL] w (fun e w'=>e=.returned (.bool ((inb Ay 0 5&&(inb AL 0 5&&decide (Ay≠AL)))))/\w=w'):=by
 have rr:=JM
 go_enter Tryz.func179,Tryz.ntmps179
 go_wp2_with (first|(go_at_call 81;refine(bX6 _ _  ).mono ?_;rintro e wa ⟨rfl,rfl⟩))
 all_goals
  go_ret
  refine⟨by first|rfl|(simp[*];done)|(simp[*];omega)|(simp_all [bq,bn];done)|(simp_all [bq,bn];omega),by rfl⟩
theorem aY2(w:World)(Ay:Int)(Ce:Int)(AL:Int)(MF:Int):Calls Tryz.prog 180 #[.agg #[.int .i64 Ay,.int .i64 Ce],.agg #[.int .i64 AL,.int .i64 MF]] w (Fz w (.bool (GE (⟨Ay,Ce⟩:BP) (⟨AL,MF⟩:BP)))):=by
 have rr:=JM
 go_enter Tryz.func180,Tryz.ntmps180
 go_wp2
 all_goals
  go_ret
  refine⟨by first|rfl|(simp[GE, *];done)|(simp[GE, *];omega)|(simp_all [GE,bq,bn];done)|(simp_all [GE,bq,bn];omega),?_⟩
  exact xT
theorem aL3(w:World)(Ay:Int)(Ce:Int)(AL:Int)(MF:Int):Calls Tryz.prog 218 #[.agg #[.int .i64 Ay,.int .i64 Ce],.agg #[.int .i64 AL,.int .i64 MF]] w (Fz w (.bool (GE (⟨Ay,Ce⟩:BP) (⟨AL,MF⟩:BP)))):=by
 have rr:=JM
 go_enter Tryz.func218,Tryz.ntmps218
 go_wp2
 all_goals
  go_ret
  refine⟨by first|rfl|(simp[GE, *];done)|(simp[GE, *];omega)|(simp_all [GE,bq,bn];done)|(simp_all [GE,bq,bn];omega),?_⟩
  exact xT
theorem bC8(w:World)(Ay:Int)(Ce:Int)(CV:Value)(Be:List Int)(zX:Aw 1 w CV Be):Calls Tryz.prog 178 #[.agg #[.int .i64 Ay,.int .i64 Ce,CV]] w (Fz w (.bool (MW (⟨Ay,Ce,Be⟩:OP)))):=by
 obtain⟨a2,cap2,rfl,hcap2,hm2,-⟩:=zX.one
 unfold maxLen at hm2
 go_enter Tryz.func178,Tryz.ntmps178
 go_wp2_with (first|(go_at_call 179;refine(bC7 _ _ _).mono ?_;rintro e9 w9 ⟨rfl,rfl⟩)|(go_at_call 276;refine(UH _ _ Be (zX.ext Ag)).mono ?_;rintro e9 w9 ⟨rfl,hx9⟩))
 all_goals
  go_ret
  exact⟨by first|rfl|(simp[MW, *];done)|(simp_all [MW,bq,bn];done)|(simp_all [MW,bq,bn];omega),by exact Ag⟩
theorem aS1(w:World)(Ay:Int)(Ce:Int)(CV:Value)(Be:List Int)(zX:Aw 1 w CV Be):Calls Tryz.prog 216 #[.agg #[.int .i64 Ay,.int .i64 Ce,CV]] w (Fz w (.bool (MW (⟨Ay,Ce,Be⟩:OP)))):=by
 obtain⟨a2,cap2,rfl,hcap2,hm2,-⟩:=zX.one
 unfold maxLen at hm2
 go_enter Tryz.func216,Tryz.ntmps216
 go_wp2_with (first|(go_at_call 217;refine(aB9 _ _).mono ?_;rintro e9 w9 ⟨rfl,rfl⟩)|(go_at_call 325;refine(VW _ _ Be (zX.ext Ag)).mono ?_;rintro e9 w9 ⟨rfl,hx9⟩))
 all_goals
  go_ret
  exact⟨by first|rfl|(simp[MW, *];done)|(simp_all [MW,bq,bn];done)|(simp_all [MW,bq,bn];omega),by exact Ag⟩
theorem aY3(w:World)(v:Value)(l:List Int)(h:Aw 1 w v l):Calls Tryz.prog 82 #[v] w (Fz w (.bool (FU l))):=by
 obtain⟨a,cap,rfl,hcap,hm,ha⟩:=h.one
 have HA:=Lib.hid ha
 clear ha
 unfold maxLen at hm
 by_cases h6:l.length=6
 rotate_left
 .
  have h6b:((l.length:Int) != 6)=true:=by simp;omega
  go_enter Tryz.func82,Tryz.ntmps82
  go_wp2
  go_ret
  exact⟨by rw[show FU l=false from by simp[FU,h6]];try rfl,by exact Ag⟩
 have h6b:((l.length:Int) != 6)=false:=by simp;omega
 have H6:=Lib.hid h6
 clear h6
 go_enter Tryz.func82,Tryz.ntmps82
 go_wp2
 go_loopw [10] (fun i wr=>∃k:Nat,k<=l.length/\i=.int .i64 k/\Ext w wr/\Hid ((l.take k).all wZ=true)) (fun i _=>l.length - (intOf i).toNat)
 case atStart=>exact⟨0,Nat.zero_le _,rfl,Ext.refl _,Lib.hid (by simp)⟩
 case round =>
  obtain⟨k,hk,rfl,he,hp⟩:=hrel
  by_cases hlt:k<l.length
  .
   obtain⟨x,b1,o1,hx,rfl,_,c⟩:=HA.out k hlt
   have d0:=he.cell c
   have HX:=Lib.hid hx
   clear hx c
   cases hb:wZ x
   .
    go_wp2_with (first|(go_at_call 177;refine(AT _ _).mono ?_;rintro e9 w9 ⟨rfl,rfl⟩;rw[hb]))
    go_ret
    exact⟨by rw[show FU l=false from by rw[FU,MU (p:=wZ) (l:=l) HX.out hb];simp];try rfl,he⟩
   go_wp2_with (first|(go_at_call 177;refine(AT _ _).mono ?_;rintro e9 w9 ⟨rfl,rfl⟩;rw[hb]))
   go_roundw
   case rel=>exact⟨k+1,by omega,by go_num,he,Lib.hid (JH HX.out hp.out hb)⟩
   case measure=>simp[intOf];omega
  obtain rfl:k=l.length:=by omega
  have hp':=hp.out
  rw[List.take_length] at hp'
  have HP:=Lib.hid hp'
  clear hp hp'
  go_wp2
  go_ret
  have hp':=HP.out
  exact⟨by rw[show FU l=true from by simp[FU,hp',H6.out]];try rfl,he⟩
theorem aS2(w:World)(v:Value)(l:List Int)(h:Aw 1 w v l):Calls Tryz.prog 107 #[v] w (Fz w (.bool (FU l))):=by
 obtain⟨a,cap,rfl,hcap,hm,ha⟩:=h.one
 have HA:=Lib.hid ha
 clear ha
 unfold maxLen at hm
 go_enter Tryz.func107,Tryz.ntmps107
 go_wp2
 go_loopw [3] (fun i wr=>∃k:Nat,k<=l.length/\i=.int .i64 k/\Ext w wr/\Hid ((l.take k).all wZ=true)) (fun i _=>l.length - (intOf i).toNat)
 case atStart=>exact⟨0,Nat.zero_le _,rfl,Ext.refl _,Lib.hid (by simp)⟩
 case round =>
  obtain⟨k,hk,rfl,he,hp⟩:=hrel
  by_cases hlt:k<l.length
  .
   obtain⟨x,b1,o1,hx,rfl,_,c⟩:=HA.out k hlt
   have d0:=he.cell c
   have HX:=Lib.hid hx
   clear hx c
   cases hb:wZ x
   .
    go_wp2_with (first|(go_at_call 207;refine(BK _ _).mono ?_;rintro e9 w9 ⟨rfl,rfl⟩;rw[hb]))
    go_ret
    exact⟨by rw[show FU l=false from by rw[FU,MU (p:=wZ) (l:=l) HX.out hb];simp];try rfl,he⟩
   go_wp2_with (first|(go_at_call 207;refine(BK _ _).mono ?_;rintro e9 w9 ⟨rfl,rfl⟩;rw[hb]))
   go_roundw
   case rel=>exact⟨k+1,by omega,by go_num,he,Lib.hid (JH HX.out hp.out hb)⟩
   case measure=>simp[intOf];omega
  obtain rfl:k=l.length:=by omega
  have hp':=hp.out
  rw[List.take_length] at hp'
  have HP:=Lib.hid hp'
  clear hp hp'
  go_wp2
  go_ret
  have hp':=HP.out
  exact⟨by rw[show FU l=decide (l.length=6) from by simp[FU,hp']];by_cases h6:l.length=6 <;> simp[h6,bq] <;> omega,he⟩
theorem VQ{p:Prop}(h:p:=by intro KQ hKQ;(repeat (first|go_big_quiet_skip|(go_big_quiet_want;first|(refine Hn _ _ _ ?_ rfl rfl (fun wq hq=>?_) ?_;rotate_left;(focus((try have q0:=hq.cell x0);(try have q1:=hq.cell x1);(try have z0:=hq.cell e0);(try have z1:=hq.cell e1);(try have y1:=hq.cell J1);go_simp;first|done|rfl));(try simp only[Ak,Act.put]);go_big_quiet_on)|(go_big_quiet_op;first|go_big_quiet_on|(refine⟨_,fun _ _=>rfl,?_⟩;go_big_quiet_on)|(apply Exists.intro;refine⟨fun wq hq=>?_,?_⟩;(focus(first|(go_at_call 179;exact Ma hq (by have c:=bC7 wq d.A d.B;rw[hap] at c;exact c))|(go_at_call 180;exact Tu hq (by have c:=aY2 wq e.A e.B d.A d.B;rw[show GE (⟨e.A,e.B⟩:BP) ⟨d.A,d.B⟩=_ from hll] at c;exact c))));go_big_quiet_on)))));exact wpQuiet_nil hKQ):p:=h
theorem cH9(w:World)(AU:Value)(Bl:List OP)(DL:Value)(Cq:List BP)(AW:Ll 2 w AU (GK Bl))(CH:Aw 2 w DL (WV Cq)):Calls Tryz.prog 83 #[.agg #[AU,DL]] w (Fz w (.bool (DW (⟨Bl,Cq⟩:KO)))):=by
 obtain⟨a0,cap0,rfl,hc0,hm0,ha0⟩:=Ll.letters AW
 obtain⟨a1,cap1,rfl,hc1,hm1,ha1⟩:=CH.recs (f:=BP.ints) (fun _=>rfl) dC
 have HA:=Lib.hid ha0;have HB:=Lib.hid ha1
 clear ha0 ha1
 unfold maxLen at hm0 hm1
 obtain⟨W0,hW0⟩:∃W0,W0=w.alloc (.cells #[.slice a0 Bl.length cap0,.slice a1 Cq.length cap1] 104):=⟨_,rfl⟩
 have hEw:Ext w W0:=by rw[hW0];exact(Ext.refl _).alloc _
 have KX0:Blk W0 w.heap.size 104 #[.slice a0 Bl.length cap0,.slice a1 Cq.length cap1]:=by rw[hW0];exact Blk.new _ _ _
 have I0:=KX0.cell 0;have I1:=KX0.cell 1
 simp only[List.getElem?_toArray,List.getElem?_cons_zero,List.getElem?_cons_succ] at I0 I1
 go_enter Tryz.func83,Tryz.ntmps83
 go_upto_region 1 with(fail)
 rw[<-hW0]
 clear hW0 KX0
 by_cases h60:Bl.length<=60
 rotate_left
 .
  have h60b:decide (60<Bl.length)=true:=by simp;omega
  go_wp2_with fail
  go_ret
  exact⟨by rw[show DW (⟨Bl,Cq⟩:KO)=false from by simp[DW,h60]];try rfl,by exact Ag⟩
 have h60b:decide (60<Bl.length)=false:=by simp;omega
 by_cases h15:Cq.length<=15
 rotate_left
 .
  have h15b:decide (15<Cq.length)=true:=by simp;omega
  go_wp2_with fail
  go_ret
  exact⟨by rw[show DW (⟨Bl,Cq⟩:KO)=false from by simp[DW,h15]];try rfl,by exact Ag⟩
 have h15b:decide (15<Cq.length)=false:=by simp;omega
 go_wp2_with fail
 go_loopw [20] (fun i wr=>∃k:Nat,k<=Bl.length/\i=.int .i64 k/\Ext W0 wr/\Hid ((Bl.take k).all MW=true)) (fun i _=>Bl.length - (intOf i).toNat)
 case atStart=>exact⟨0,Nat.zero_le _,rfl,Ext.refl _,Lib.hid (by simp)⟩
 case round =>
  obtain⟨k,hk,rfl,he,hp⟩:=hrel
  have hEr:=hEw.trans he
  have J0:=he.cell I0;have J1:=he.cell I1
  have hLb:w.heap.size<wr.heap.size:=World.block_lt_of_cell? _ _ J1
  by_cases hlt:k<Bl.length
  .
   obtain⟨d,b1,o1,sa,sn,sc,hd,rfl,_,c0,c1,c2,hin0⟩:=HA.out k hlt
   have d0:=hEr.cell c0;have d1:=hEr.cell c1;have d2:=hEr.cell c2
   have hin:=hin0.ext hEr
   have HD:=Lib.hid hd
   clear c0 c1 c2 hd hin0
   cases hb:MW d
   .
    go_wp2_with (first|(go_at_call 178;refine(bC8 _ d.From d.To _ d.Row (hin.ext Ag)).mono ?_;rintro e9 w1 ⟨rfl,hx1⟩;rw[show MW (⟨d.From,d.To,d.Row⟩:OP)=_ from hb]))
    go_ret
    exact⟨by rw[show DW (⟨Bl,Cq⟩:KO)=false from by simp only[DW];rw[MU (p:=MW) (l:=Bl) HD.out hb];simp];try rfl,by exact Ag⟩
   go_wp2_with (first|(go_at_call 178;refine(bC8 _ d.From d.To _ d.Row (hin.ext Ag)).mono ?_;rintro e9 w1 ⟨rfl,hx1⟩;rw[show MW (⟨d.From,d.To,d.Row⟩:OP)=_ from hb]))
   go_roundw
   case rel=>exact⟨k+1,by omega,by go_num,by exact Ag,Lib.hid (JH HD.out hp.out hb)⟩
   case measure=>simp[intOf];omega
  obtain rfl:k=Bl.length:=by omega
  have hp':=hp.out
  rw[List.take_length] at hp'
  have HP:=Lib.hid hp'
  clear hp hp'
  go_wp2_with fail
  go_loopw [31] (fun i wr=>∃k:Nat,k<=Cq.length/\i=.int .i64 k/\Ext W0 wr/\Hid (∀i,i<k->QQ Cq i)) (fun i _=>Cq.length - (intOf i).toNat)
  case atStart=>exact⟨0,Nat.zero_le _,rfl,he,Lib.hid (fun i hi=>by omega)⟩
  case round =>
   clear he hEr J0 J1 hLb
   obtain⟨k,hk,rfl,he,HO⟩:=hrel
   have hEr:=hEw.trans he
   have J0:=he.cell I0;have J1:=he.cell I1
   have hLb:w.heap.size<wr.heap.size:=World.block_lt_of_cell? _ _ J1
   by_cases hlt:k<Cq.length
   .
    obtain⟨d,b1,o1,hd,rfl,hb1,c⟩:=HB.out k hlt
    have d0:=hEr.cell (c 0 _ dC rfl)
    have d1:=hEr.cell (c 1 _ dC rfl)
    simp only[Nat.add_zero] at d0
    have HD:=Lib.hid hd
    clear c hd
    cases p1:inb d.A 0 5
    .
     have hap:(inb d.A 0 5&&(inb d.B 0 5&&decide (d.A≠d.B)))=false:=by rw[p1];rfl
     go_upto_region 12 with(fail)
     obtain⟨W,hW⟩:∃W,W=wr.alloc (.cells #[.int .i64 d.A,.int .i64 d.B] 258):=⟨_,rfl⟩
     have heR:Ext wr W:=by rw[hW];exact(Ext.refl wr).alloc _
     have KX:Blk W wr.heap.size 258 #[.int .i64 d.A,.int .i64 d.B]:=by rw[hW];exact Blk.new _ _ _
     rw[<-hW]
     clear hW
     have x0:=KX.cell 0;have x1:=KX.cell 1
     simp only[List.getElem?_toArray,List.getElem?_cons_zero,List.getElem?_cons_succ] at x0 x1
     have J1:=heR.cell J1
     have hLw:w.heap.size<W.heap.size:=World.block_lt_of_cell? _ _ J1
     refine rx0 VQ fun w1 hx1=>?_
     go_wp2_with fail
     go_ret
     exact⟨by rw[show DW (⟨Bl,Cq⟩:KO)=false from by simp only[DW];rw[GO (fun hh=>by have:=(hh k hlt d HD.out).1;rw[p1] at this;cases this)];simp];try rfl,by exact Ag⟩
    cases p2:inb d.B 0 5
    .
     have hap:(inb d.A 0 5&&(inb d.B 0 5&&decide (d.A≠d.B)))=false:=by rw[p1,p2];rfl
     go_upto_region 12 with(fail)
     obtain⟨W,hW⟩:∃W,W=wr.alloc (.cells #[.int .i64 d.A,.int .i64 d.B] 258):=⟨_,rfl⟩
     have heR:Ext wr W:=by rw[hW];exact(Ext.refl wr).alloc _
     have KX:Blk W wr.heap.size 258 #[.int .i64 d.A,.int .i64 d.B]:=by rw[hW];exact Blk.new _ _ _
     rw[<-hW]
     clear hW
     have x0:=KX.cell 0;have x1:=KX.cell 1
     simp only[List.getElem?_toArray,List.getElem?_cons_zero,List.getElem?_cons_succ] at x0 x1
     have J1:=heR.cell J1
     have hLw:w.heap.size<W.heap.size:=World.block_lt_of_cell? _ _ J1
     refine rx0 VQ fun w1 hx1=>?_
     go_wp2_with fail
     go_ret
     exact⟨by rw[show DW (⟨Bl,Cq⟩:KO)=false from by simp only[DW];rw[GO (fun hh=>by have:=(hh k hlt d HD.out).2.1;rw[p2] at this;cases this)];simp];try rfl,by exact Ag⟩
    by_cases hlt2:d.A<d.B
    rotate_left
    .
     obtain⟨bb,hbb⟩:∃bb,bb=decide (d.A≠d.B):=⟨_,rfl⟩
     have hgt:bb=true->decide (d.B<d.A)=true:=by intro h;rw[hbb] at h;simp at h ⊢;omega
     have hap:(inb d.A 0 5&&(inb d.B 0 5&&decide (d.A≠d.B)))=bb:=by rw[p1,p2,hbb];rfl
     clear hbb
     have HLN:=Lib.hid hlt2
     clear hlt2
     cases bb
     rotate_left
     .
      have hgt:=hgt rfl
      go_upto_region 12 with(fail)
      obtain⟨W,hW⟩:∃W,W=wr.alloc (.cells #[.int .i64 d.A,.int .i64 d.B] 258):=⟨_,rfl⟩
      have heR:Ext wr W:=by rw[hW];exact(Ext.refl wr).alloc _
      have KX:Blk W wr.heap.size 258 #[.int .i64 d.A,.int .i64 d.B]:=by rw[hW];exact Blk.new _ _ _
      rw[<-hW]
      clear hW
      have x0:=KX.cell 0;have x1:=KX.cell 1
      simp only[List.getElem?_toArray,List.getElem?_cons_zero,List.getElem?_cons_succ] at x0 x1
      have J1:=heR.cell J1
      have hLw:w.heap.size<W.heap.size:=World.block_lt_of_cell? _ _ J1
      refine rx0 VQ fun w1 hx1=>?_
      go_wp2_with fail
      go_ret
      exact⟨by rw[show DW (⟨Bl,Cq⟩:KO)=false from by simp only[DW];rw[GO (fun hh=>by have:=(hh k hlt d HD.out).2.2.1;have hn:=HLN.out;omega)];simp];try rfl,by exact Ag⟩
     go_upto_region 12 with(fail)
     obtain⟨W,hW⟩:∃W,W=wr.alloc (.cells #[.int .i64 d.A,.int .i64 d.B] 258):=⟨_,rfl⟩
     have heR:Ext wr W:=by rw[hW];exact(Ext.refl wr).alloc _
     have KX:Blk W wr.heap.size 258 #[.int .i64 d.A,.int .i64 d.B]:=by rw[hW];exact Blk.new _ _ _
     rw[<-hW]
     clear hW
     have x0:=KX.cell 0;have x1:=KX.cell 1
     simp only[List.getElem?_toArray,List.getElem?_cons_zero,List.getElem?_cons_succ] at x0 x1
     have J1:=heR.cell J1
     have hLw:w.heap.size<W.heap.size:=World.block_lt_of_cell? _ _ J1
     refine rx0 VQ fun w1 hx1=>?_
     go_wp2_with fail
     go_ret
     exact⟨by rw[show DW (⟨Bl,Cq⟩:KO)=false from by simp only[DW];rw[GO (fun hh=>by have:=(hh k hlt d HD.out).2.2.1;have hn:=HLN.out;omega)];simp];try rfl,by exact Ag⟩
    have hge:decide (d.B<=d.A)=false:=by simp;omega
    have hgt:decide (d.B<d.A)=false:=by simp;omega
    have hap:(inb d.A 0 5&&(inb d.B 0 5&&decide (d.A≠d.B)))=true:=by rw[p1,p2,show decide (d.A≠d.B)=true by simp;omega];rfl
    have HLT:=Lib.hid hlt2
    clear hlt2
    by_cases hk0:k=0
    .
     have hk1:decide (0<k)=false:=by simp;omega
     have HK:=Lib.hid hk0
     clear hk0
     go_upto_region 12 with(fail)
     obtain⟨W,hW⟩:∃W,W=wr.alloc (.cells #[.int .i64 d.A,.int .i64 d.B] 258):=⟨_,rfl⟩
     have heR:Ext wr W:=by rw[hW];exact(Ext.refl wr).alloc _
     have KX:Blk W wr.heap.size 258 #[.int .i64 d.A,.int .i64 d.B]:=by rw[hW];exact Blk.new _ _ _
     rw[<-hW]
     clear hW
     have x0:=KX.cell 0;have x1:=KX.cell 1
     simp only[List.getElem?_toArray,List.getElem?_cons_zero,List.getElem?_cons_succ] at x0 x1
     have J1:=heR.cell J1
     have hLw:w.heap.size<W.heap.size:=World.block_lt_of_cell? _ _ J1
     refine rx0 VQ fun w1 hx1=>?_
     go_wp2_with fail
     go_roundw
     case rel=>exact⟨k+1,by omega,by go_num,by exact Ag,Lib.hid (QQ.next HD.out HO.out p1 p2 HLT.out (fun e' hh hl=>by have:=HK.out;omega))⟩
     case measure=>simp[intOf];omega
    obtain⟨e,b2,o2,hde,hbo,_,c⟩:=HB.out (k - 1) oM
    obtain⟨rfl,rfl⟩:b1=b2/\o1=o2:=by simpa using hbo
    have e0:=hEr.cell (c 0 _ dC rfl)
    have e1:=hEr.cell (c 1 _ dC rfl)
    simp only[Nat.add_zero] at e0
    have HE:=Lib.hid hde
    clear c hde hbo
    have hk1:decide (0<k)=true:=by simp;omega
    go_upto_region 12 with(fail)
    obtain⟨W,hW⟩:∃W,W=wr.alloc (.cells #[.int .i64 d.A,.int .i64 d.B] 258):=⟨_,rfl⟩
    have heR:Ext wr W:=by rw[hW];exact(Ext.refl wr).alloc _
    have KX:Blk W wr.heap.size 258 #[.int .i64 d.A,.int .i64 d.B]:=by rw[hW];exact Blk.new _ _ _
    rw[<-hW]
    clear hW
    have x0:=KX.cell 0;have x1:=KX.cell 1
    simp only[List.getElem?_toArray,List.getElem?_cons_zero,List.getElem?_cons_succ] at x0 x1
    have J1:=heR.cell J1
    have hLw:w.heap.size<W.heap.size:=World.block_lt_of_cell? _ _ J1
    have e0:=heR.cell e0;have e1:=heR.cell e1
    cases hll:GE e d
    .
     refine rx0 VQ fun w1 hx1=>?_
     go_wp2_with fail
     go_ret
     exact⟨by rw[show DW (⟨Bl,Cq⟩:KO)=false from by simp only[DW];rw[GO (fun hh=>by have:=(hh k hlt d HD.out).2.2.2 e oM HE.out;rw[hll] at this;cases this)];simp];try rfl,by exact Ag⟩
    refine rx0 VQ fun w1 hx1=>?_
    go_wp2_with fail
    go_roundw
    case rel=>exact⟨k+1,by omega,by go_num,by exact Ag,Lib.hid (QQ.next HD.out HO.out p1 p2 HLT.out (fun e' hh hl=>by rw[HE.out] at hl;obtain rfl:=Option.some.inj hl;exact hll))⟩
    case measure=>simp[intOf];omega
   obtain rfl:k=Cq.length:=by omega
   go_wp2_with fail
   go_ret
   exact⟨by rw[show DW (⟨Bl,Cq⟩:KO)=true from by simp only[DW];rw[HP.out,YA HO.out];simp[h60,h15]];try rfl,by exact Ag⟩
theorem XN{p:Prop}(h:p:=by intro KQ hKQ;(repeat (first|go_big_quiet_skip|(go_big_quiet_want;first|(refine Hn _ _ _ ?_ rfl rfl (fun wq hq=>?_) ?_;rotate_left;(focus((try have q0:=hq.cell x0);(try have q1:=hq.cell x1);(try have z0:=hq.cell e0);(try have z1:=hq.cell e1);(try have y1:=hq.cell J1);go_simp;first|done|rfl));(try simp only[Ak,Act.put]);go_big_quiet_on)|(go_big_quiet_op;first|go_big_quiet_on|(refine⟨_,fun _ _=>rfl,?_⟩;go_big_quiet_on)|(apply Exists.intro;refine⟨fun wq hq=>?_,?_⟩;(focus(first|(go_at_call 217;first|exact Ma hq (by have c:=aB9 wq d.A;rw[p1] at c;exact c)|exact Ma hq (by have c:=aB9 wq d.B;rw[p2] at c;exact c))|(go_at_call 218;exact Tu hq (by have c:=aL3 wq e.A e.B d.A d.B;rw[show GE (⟨e.A,e.B⟩:BP) ⟨d.A,d.B⟩=_ from hll] at c;exact c))));go_big_quiet_on)))));exact wpQuiet_nil hKQ):p:=h
theorem bX7(w:World)(AU:Value)(Bl:List OP)(DL:Value)(Cq:List BP)(AW:Ll 2 w AU (GK Bl))(CH:Aw 2 w DL (WV Cq)):Calls Tryz.prog 112 #[.agg #[AU,DL]] w (Fz w (.bool (DW (⟨Bl,Cq⟩:KO)))):=by
 obtain⟨a0,cap0,rfl,hc0,hm0,ha0⟩:=Ll.letters AW
 obtain⟨a1,cap1,rfl,hc1,hm1,ha1⟩:=CH.recs (f:=BP.ints) (fun _=>rfl) dC
 have HA:=Lib.hid ha0;have HB:=Lib.hid ha1
 clear ha0 ha1
 unfold maxLen at hm0 hm1
 obtain⟨W0,hW0⟩:∃W0,W0=w.alloc (.cells #[.slice a0 Bl.length cap0,.slice a1 Cq.length cap1] 104):=⟨_,rfl⟩
 have hEw:Ext w W0:=by rw[hW0];exact(Ext.refl _).alloc _
 have KX0:Blk W0 w.heap.size 104 #[.slice a0 Bl.length cap0,.slice a1 Cq.length cap1]:=by rw[hW0];exact Blk.new _ _ _
 have I0:=KX0.cell 0;have I1:=KX0.cell 1
 simp only[List.getElem?_toArray,List.getElem?_cons_zero,List.getElem?_cons_succ] at I0 I1
 go_enter Tryz.func112,Tryz.ntmps112
 go_upto_region 1 with(fail)
 rw[<-hW0]
 clear hW0 KX0
 by_cases h60:Bl.length<=60
 rotate_left
 .
  have h60b:decide (60<Bl.length)=true:=by simp;omega
  go_wp2_with fail
  go_ret
  exact⟨by rw[show DW (⟨Bl,Cq⟩:KO)=false from by simp[DW,h60]];try rfl,by exact Ag⟩
 have h60b:decide (60<Bl.length)=false:=by simp;omega
 by_cases h15:Cq.length<=15
 rotate_left
 .
  have h15b:decide (15<Cq.length)=true:=by simp;omega
  go_wp2_with fail
  go_ret
  exact⟨by rw[show DW (⟨Bl,Cq⟩:KO)=false from by simp[DW,h15]];try rfl,by exact Ag⟩
 have h15b:decide (15<Cq.length)=false:=by simp;omega
 go_wp2_with fail
 go_loopw [3] (fun i wr=>∃k:Nat,k<=Bl.length/\i=.int .i64 k/\Ext W0 wr/\Hid ((Bl.take k).all MW=true)) (fun i _=>Bl.length - (intOf i).toNat)
 case atStart=>exact⟨0,Nat.zero_le _,rfl,Ext.refl _,Lib.hid (by simp)⟩
 case round =>
  obtain⟨k,hk,rfl,he,hp⟩:=hrel
  have hEr:=hEw.trans he
  have J0:=he.cell I0;have J1:=he.cell I1
  have hLb:w.heap.size<wr.heap.size:=World.block_lt_of_cell? _ _ J1
  by_cases hlt:k<Bl.length
  .
   obtain⟨d,b1,o1,sa,sn,sc,hd,rfl,_,c0,c1,c2,hin0⟩:=HA.out k hlt
   have d0:=hEr.cell c0;have d1:=hEr.cell c1;have d2:=hEr.cell c2
   have hin:=hin0.ext hEr
   have HD:=Lib.hid hd
   clear c0 c1 c2 hd hin0
   cases hb:MW d
   .
    go_wp2_with (first|(go_at_call 216;refine(aS1 _ d.From d.To _ d.Row (hin.ext Ag)).mono ?_;rintro e9 w1 ⟨rfl,hx1⟩;rw[show MW (⟨d.From,d.To,d.Row⟩:OP)=_ from hb]))
    go_ret
    exact⟨by rw[show DW (⟨Bl,Cq⟩:KO)=false from by simp only[DW];rw[MU (p:=MW) (l:=Bl) HD.out hb];simp];try rfl,by exact Ag⟩
   go_wp2_with (first|(go_at_call 216;refine(aS1 _ d.From d.To _ d.Row (hin.ext Ag)).mono ?_;rintro e9 w1 ⟨rfl,hx1⟩;rw[show MW (⟨d.From,d.To,d.Row⟩:OP)=_ from hb]))
   go_roundw
   case rel=>exact⟨k+1,by omega,by go_num,by exact Ag,Lib.hid (JH HD.out hp.out hb)⟩
   case measure=>simp[intOf];omega
  obtain rfl:k=Bl.length:=by omega
  have hp':=hp.out
  rw[List.take_length] at hp'
  have HP:=Lib.hid hp'
  clear hp hp'
  go_wp2_with fail
  go_loopw [4] (fun i wr=>∃k:Nat,k<=Cq.length/\i=.int .i64 k/\Ext W0 wr/\Hid (∀i,i<k->QQ Cq i)) (fun i _=>Cq.length - (intOf i).toNat)
  case atStart=>exact⟨0,Nat.zero_le _,rfl,he,Lib.hid (fun i hi=>by omega)⟩
  case round =>
   clear he hEr J0 J1 hLb
   obtain⟨k,hk,rfl,he,HO⟩:=hrel
   have hEr:=hEw.trans he
   have J0:=he.cell I0;have J1:=he.cell I1
   have hLb:w.heap.size<wr.heap.size:=World.block_lt_of_cell? _ _ J1
   by_cases hlt:k<Cq.length
   .
    obtain⟨d,b1,o1,hd,rfl,hb1,c⟩:=HB.out k hlt
    have d0:=hEr.cell (c 0 _ dC rfl)
    have d1:=hEr.cell (c 1 _ dC rfl)
    simp only[Nat.add_zero] at d0
    have HD:=Lib.hid hd
    clear c hd
    cases p1:inb d.A 0 5
    .
     go_upto_region 12 with(fail)
     obtain⟨W,hW⟩:∃W,W=wr.alloc (.cells #[.int .i64 d.A,.int .i64 d.B] 258):=⟨_,rfl⟩
     have heR:Ext wr W:=by rw[hW];exact(Ext.refl wr).alloc _
     have KX:Blk W wr.heap.size 258 #[.int .i64 d.A,.int .i64 d.B]:=by rw[hW];exact Blk.new _ _ _
     rw[<-hW]
     clear hW
     have x0:=KX.cell 0;have x1:=KX.cell 1
     simp only[List.getElem?_toArray,List.getElem?_cons_zero,List.getElem?_cons_succ] at x0 x1
     have J1:=heR.cell J1
     have hLw:w.heap.size<W.heap.size:=World.block_lt_of_cell? _ _ J1
     refine rx0 XN fun w1 hx1=>?_
     go_wp2_with fail
     go_ret
     exact⟨by rw[show DW (⟨Bl,Cq⟩:KO)=false from by simp only[DW];rw[GO (fun hh=>by have:=(hh k hlt d HD.out).1;rw[p1] at this;cases this)];simp];try rfl,by exact Ag⟩
    cases p2:inb d.B 0 5
    .
     go_upto_region 12 with(fail)
     obtain⟨W,hW⟩:∃W,W=wr.alloc (.cells #[.int .i64 d.A,.int .i64 d.B] 258):=⟨_,rfl⟩
     have heR:Ext wr W:=by rw[hW];exact(Ext.refl wr).alloc _
     have KX:Blk W wr.heap.size 258 #[.int .i64 d.A,.int .i64 d.B]:=by rw[hW];exact Blk.new _ _ _
     rw[<-hW]
     clear hW
     have x0:=KX.cell 0;have x1:=KX.cell 1
     simp only[List.getElem?_toArray,List.getElem?_cons_zero,List.getElem?_cons_succ] at x0 x1
     have J1:=heR.cell J1
     have hLw:w.heap.size<W.heap.size:=World.block_lt_of_cell? _ _ J1
     refine rx0 XN fun w1 hx1=>?_
     go_wp2_with fail
     go_ret
     exact⟨by rw[show DW (⟨Bl,Cq⟩:KO)=false from by simp only[DW];rw[GO (fun hh=>by have:=(hh k hlt d HD.out).2.1;rw[p2] at this;cases this)];simp];try rfl,by exact Ag⟩
    by_cases hlt2:d.A<d.B
    rotate_left
    .
     have hge:decide (d.A≥d.B)=true:=by simp;omega
     have hge2:decide (d.B<=d.A)=true:=by simp;omega
     have HLN:=Lib.hid hlt2
     clear hlt2
     skip
     go_upto_region 12 with(fail)
     obtain⟨W,hW⟩:∃W,W=wr.alloc (.cells #[.int .i64 d.A,.int .i64 d.B] 258):=⟨_,rfl⟩
     have heR:Ext wr W:=by rw[hW];exact(Ext.refl wr).alloc _
     have KX:Blk W wr.heap.size 258 #[.int .i64 d.A,.int .i64 d.B]:=by rw[hW];exact Blk.new _ _ _
     rw[<-hW]
     clear hW
     have x0:=KX.cell 0;have x1:=KX.cell 1
     simp only[List.getElem?_toArray,List.getElem?_cons_zero,List.getElem?_cons_succ] at x0 x1
     have J1:=heR.cell J1
     have hLw:w.heap.size<W.heap.size:=World.block_lt_of_cell? _ _ J1
     refine rx0 XN fun w1 hx1=>?_
     go_wp2_with fail
     go_ret
     exact⟨by rw[show DW (⟨Bl,Cq⟩:KO)=false from by simp only[DW];rw[GO (fun hh=>by have:=(hh k hlt d HD.out).2.2.1;have hn:=HLN.out;omega)];simp];try rfl,by exact Ag⟩
    have hge:decide (d.B<=d.A)=false:=by simp;omega
    have hgt:decide (d.B<d.A)=false:=by simp;omega
    have HLT:=Lib.hid hlt2
    clear hlt2
    by_cases hk0:k=0
    .
     have hk1:decide (0<k)=false:=by simp;omega
     have HK:=Lib.hid hk0
     clear hk0
     go_upto_region 12 with(fail)
     obtain⟨W,hW⟩:∃W,W=wr.alloc (.cells #[.int .i64 d.A,.int .i64 d.B] 258):=⟨_,rfl⟩
     have heR:Ext wr W:=by rw[hW];exact(Ext.refl wr).alloc _
     have KX:Blk W wr.heap.size 258 #[.int .i64 d.A,.int .i64 d.B]:=by rw[hW];exact Blk.new _ _ _
     rw[<-hW]
     clear hW
     have x0:=KX.cell 0;have x1:=KX.cell 1
     simp only[List.getElem?_toArray,List.getElem?_cons_zero,List.getElem?_cons_succ] at x0 x1
     have J1:=heR.cell J1
     have hLw:w.heap.size<W.heap.size:=World.block_lt_of_cell? _ _ J1
     refine rx0 XN fun w1 hx1=>?_
     go_wp2_with fail
     go_roundw
     case rel=>exact⟨k+1,by omega,by go_num,by exact Ag,Lib.hid (QQ.next HD.out HO.out p1 p2 HLT.out (fun e' hh hl=>by have:=HK.out;omega))⟩
     case measure=>simp[intOf];omega
    obtain⟨e,b2,o2,hde,hbo,_,c⟩:=HB.out (k - 1) oM
    obtain⟨rfl,rfl⟩:b1=b2/\o1=o2:=by simpa using hbo
    have e0:=hEr.cell (c 0 _ dC rfl)
    have e1:=hEr.cell (c 1 _ dC rfl)
    simp only[Nat.add_zero] at e0
    have HE:=Lib.hid hde
    clear c hde hbo
    have hk1:decide (0<k)=true:=by simp;omega
    go_upto_region 12 with(fail)
    obtain⟨W,hW⟩:∃W,W=wr.alloc (.cells #[.int .i64 d.A,.int .i64 d.B] 258):=⟨_,rfl⟩
    have heR:Ext wr W:=by rw[hW];exact(Ext.refl wr).alloc _
    have KX:Blk W wr.heap.size 258 #[.int .i64 d.A,.int .i64 d.B]:=by rw[hW];exact Blk.new _ _ _
    rw[<-hW]
    clear hW
    have x0:=KX.cell 0;have x1:=KX.cell 1
    simp only[List.getElem?_toArray,List.getElem?_cons_zero,List.getElem?_cons_succ] at x0 x1
    have J1:=heR.cell J1
    have hLw:w.heap.size<W.heap.size:=World.block_lt_of_cell? _ _ J1
    have e0:=heR.cell e0;have e1:=heR.cell e1
    cases hll:GE e d
    .
     refine rx0 XN fun w1 hx1=>?_
     go_wp2_with fail
     go_ret
     exact⟨by rw[show DW (⟨Bl,Cq⟩:KO)=false from by simp only[DW];rw[GO (fun hh=>by have:=(hh k hlt d HD.out).2.2.2 e oM HE.out;rw[hll] at this;cases this)];simp];try rfl,by exact Ag⟩
    refine rx0 XN fun w1 hx1=>?_
    go_wp2_with fail
    go_roundw
    case rel=>exact⟨k+1,by omega,by go_num,by exact Ag,Lib.hid (QQ.next HD.out HO.out p1 p2 HLT.out (fun e' hh hl=>by rw[HE.out] at hl;obtain rfl:=Option.some.inj hl;exact hll))⟩
    case measure=>simp[intOf];omega
   obtain rfl:k=Cq.length:=by omega
   go_wp2_with fail
   go_ret
   exact⟨by rw[show DW (⟨Bl,Cq⟩:KO)=true from by simp only[DW];rw[HP.out,YA HO.out];simp[h60,h15]];try rfl,by exact Ag⟩
theorem IU.leaves{w:World}{p:List Value}{n:Bh}(h:IU w (.agg p.toArray) n):∃s0 s1 s2 s3 s7 s11 s15 s16 s18:Value,p=[s0,s1,s2,s3,Value.int .i64 n.Head.Num,Value.int .i64 n.Head.Base,Value.int .i64 n.Head.Time,s7,Value.int .i64 n.Next.Num,Value.int .i64 n.Next.Base,Value.int .i64 n.Next.Time,s11,Value.bool n.More,Value.int .i64 n.Book.Base,Value.int .i64 n.Book.Time,s15,s16,Value.int .i64 n.Durable,s18]/\Ll 0 w s0 (Bd n.Two.A.Kept)/\Ll 1 w s1 (Dq n.Two.A.Wait)/\Ll 0 w s2 (Bd n.Two.B.Kept)/\Ll 1 w s3 (Dq n.Two.B.Wait)/\Aw 3 w s7 (Xh n.Head.Seen)/\Aw 3 w s11 (Xh n.Next.Seen)/\Aw 9 w s15 (wM n.Book.Entries)/\Aw 3 w s16 (Xh n.Seen)/\Aw 4 w s18 (MG n.Owe):=by
 obtain⟨p0,p1,p2,p4,t5,t7,e,l0,l1,l2,l4,g0,g1,g2,g4,g5,g7⟩:=h
 have e:=wQ e
 obtain⟨a0,a1,e0,-,-,d0,d1⟩:=g0
 obtain⟨s0,s1,e00,n0,n1⟩:=d0
 obtain⟨s2,s3,e01,n2,n3⟩:=d1
 obtain⟨s7,e1,n7⟩:=g1
 obtain⟨s11,e2,n11⟩:=g2
 obtain⟨s15,e4,n15⟩:=g4
 have e00:=wQ (M:=[s0,s1]) e00
 have e01:=wQ (M:=[s2,s3]) e01
 have e0:=wQ e0;have e1:=wQ e1;have e2:=wQ e2;have e4:=wQ e4
 subst e00 e01
 subst e0 e1 e2 e4
 subst e
 exact⟨s0,s1,s2,s3,s7,s11,s15,t5,t7,by simp only[List.cons_append,List.nil_append,List.append_nil],n0,n1,n2,n3,n7,n11,n15,g5,g7⟩
theorem IU.list{w:World}{v:Value}{n:Bh}(h:IU w v n):∃p:List Value,v=.agg p.toArray:=by
 obtain⟨p0,p1,p2,p4,t5,t7,e,-⟩:=h
 exact⟨_,e⟩
theorem cI0{w:World}{v:Value}{n:Bh}(h:IU w v n):Calls Tryz.prog 182 #[v] w (Fz w (.bool (DX n))):=by
 obtain⟨p,rfl⟩:=h.list
 obtain⟨s0,s1,s2,s3,s7,s11,s15,s16,s18,rfl,h0,h1,h2,h3,h7,h11,h15,h16,h18⟩:=h.leaves
 exact cG6 w _ _ _ _ _ _ _ _ n.Head.Num n.Head.Base n.Head.Time _ _ n.Next.Num n.Next.Base n.Next.Time _ _ n.More n.Book.Base n.Book.Time _ _ _ _ n.Durable _ _ h0 h1 h2 h3 h7 h11 h15 h16 h18
theorem bX8{w:World}{v:Value}{n:Bh}(h:IU w v n):Calls Tryz.prog 208 #[v] w (Fz w (.bool (DX n))):=by
 obtain⟨p,rfl⟩:=h.list
 obtain⟨s0,s1,s2,s3,s7,s11,s15,s16,s18,rfl,h0,h1,h2,h3,h7,h11,h15,h16,h18⟩:=h.leaves
 exact bW2 w _ _ _ _ _ _ _ _ n.Head.Num n.Head.Base n.Head.Time _ _ n.Next.Num n.Next.Base n.Next.Time _ _ n.More n.Book.Base n.Book.Time _ _ _ _ n.Durable _ _ h0 h1 h2 h3 h7 h11 h15 h16 h18
theorem CU.leaves{w:World}{v:Value}{c:AN}(h:CU w v c):∃s1 s2:Value,v=.agg #[.int .i64 c.Id,s1,s2,.int .i64 c.Last]/\Aw 7 w s1 (TB c.Todo)/\Aw 4 w s2 (ZA c.Gots):=by
 obtain⟨s1,s2,e,h1,h2⟩:=h
 exact⟨s1,s2,by rw[e];rfl,h1,h2⟩
theorem aC0{w:World}{v:Value}{c:AN}(h:CU w v c):Calls Tryz.prog 171 #[v] w (Fz w (.bool (wW c))):=by
 obtain⟨s1,s2,rfl,h1,h2⟩:=h.leaves
 exact aY1 w c.Id _ _ _ _ c.Last h1 h2
theorem YM{w:World}{v:Value}{c:AN}(h:CU w v c):Calls Tryz.prog 111 #[v] w (Fz w (.bool (wW c))):=by
 obtain⟨s1,s2,rfl,h1,h2⟩:=h.leaves
 exact aS0 w c.Id _ _ _ _ c.Last h1 h2
theorem cI1{w:World}{v:Value}{c:KO}(h:ND w v c):Calls Tryz.prog 83 #[v] w (Fz w (.bool (DW c))):=by
 obtain⟨s1,s2,rfl,h1,h2⟩:=h
 exact cH9 w _ _ _ _ h1 h2
theorem bX9{w:World}{v:Value}{c:KO}(h:ND w v c):Calls Tryz.prog 112 #[v] w (Fz w (.bool (DW c))):=by
 obtain⟨s1,s2,rfl,h1,h2⟩:=h
 exact bX7 w _ _ _ _ h1 h2
theorem UA{w:World}{v:Value}{d:DU}(h:KU w v d.Up)(hu:d.Up.length=6):∃b off cap,v=.slice (some ⟨b,off,none⟩) 6 cap/\6<=cap/\cap<=maxLen/\b<w.heap.size/\∀k,k<6->w.cell? ⟨b,off+k,none⟩=some (.bool (JI d k)):=by
 obtain⟨a,cap,rfl,hc,hm,ha⟩:=Sl.bools h
 rw[hu] at hc ha ⊢
 obtain⟨x,b,off,-,rfl,hb,-⟩:=ha 0 dC
 refine⟨b,off,cap,rfl,hc,hm,hb,fun k hk=>?_⟩
 obtain⟨x,b',off',hx,e,-,hcell⟩:=ha k hk
 cases e
 rw[hcell]
 unfold JI
 rw[hx];rfl
end Go.Proofs.YtkpmbocbbgocbaaGreat
