/- Cl2 Cl3 Cl1 Cl4 Cl Nt0 Nt1 Nt2 Nt WM WK. -/
import Derived.Test.YtkpmbocbbgocbaaGreatGa
import Derived.Test.YtkpmbocbbgocbaaGreatB4
import Derived.Test.YtkpmbocbbgocbaaGreatB6
import Derived.Test.YtkpmbocbbgocbaaGreatB1
import Derived.Test.YtkpmbocbbgocbaaGreatGl
import Derived.Test.YtkpmbocbbgocbaaGreatB3
import Derived.Test.YtkpmbocbbgocbaaGreatB7
set_option linter.unusedSimpArgs false
set_option linter.unusedVariables false
set_option maxHeartbeats 8000000
set_option maxRecDepth 100000
namespace Go.Proofs.YtkpmbocbbgocbaaGreat
open Go.RowKit Go.G8
theorem todoOk_c (w:World) (v:Value) (l:List DWant) (h:Ints 7 w v (flWant l)):Calls Tryz.prog 70 #[v] w (RetV w (.bool (todoOk l))):=by
 obtain⟨a,cap,rfl,hcap,hm,ha⟩:=h.recs (f:=DWant.ints) (fun _=>rfl) dC
 have HA:=Lib.hid ha
 clear ha
 unfold maxLen at hm
 go_enter Tryz.func70,Tryz.ntmps70
 go_wp2
 go_loopw [7] (fun i wr=>∃ k:Nat,k≤l.length∧i=.int .i64 k∧Ext w wr∧Hid ((l.take k).all wantOk=true)) (fun i _=>l.length - (intOf i).toNat)
 case atStart=>exact⟨0,Nat.zero_le _,rfl,Ext.refl _,Lib.hid (by simp)⟩
 case round =>
  obtain⟨k,hk,rfl,he,hp⟩:=hrel
  by_cases hlt:k<l.length
  ·
   obtain⟨d,b1,o1,hd,rfl,hb1,c⟩:=HA.out k hlt
   have d0:=he.cell (c 0 _ dC rfl)
   have d1:=he.cell (c 1 _ dC rfl)
   have d2:=he.cell (c 2 _ dC rfl)
   have d3:=he.cell (c 3 _ dC rfl)
   have d4:=he.cell (c 4 _ dC rfl)
   have d5:=he.cell (c 5 _ dC rfl)
   have d6:=he.cell (c 6 _ dC rfl)
   simp only [Nat.add_zero] at d0
   have HD:=Lib.hid hd
   clear c hd
   cases hb:wantOk d
   ·
    go_wp2_with (first|(go_at_call 167;refine (wantOk_e _ d.Kind d.Op.Kind d.Op.A d.Op.B d.Op.C d.Op.D d.Key).mono ?_;rintro e9 w1 ⟨rfl,hx1⟩;rw [show wantOk (⟨d.Kind,⟨d.Op.Kind,d.Op.A,d.Op.B,d.Op.C,d.Op.D⟩,d.Key⟩:DWant)=_ from hb]))
    go_ret
    exact⟨by rw [todoOk,all_no (p:=wantOk) (l:=l) HD.out hb];simp,by exact extT⟩
   go_wp2_with (first|(go_at_call 167;refine (wantOk_e _ d.Kind d.Op.Kind d.Op.A d.Op.B d.Op.C d.Op.D d.Key).mono ?_;rintro e9 w1 ⟨rfl,hx1⟩;rw [show wantOk (⟨d.Kind,⟨d.Op.Kind,d.Op.A,d.Op.B,d.Op.C,d.Op.D⟩,d.Key⟩:DWant)=_ from hb]))
   go_roundw
   case rel=>exact⟨k+1,by omega,by go_num,by exact extT,Lib.hid (all_step HD.out hp.out hb)⟩
   case measure=>simp [intOf];omega
  obtain rfl:k=l.length:=by omega
  go_wp2
  go_ret
  have hp':=hp.out
  rw [List.take_length] at hp'
  exact⟨by rw [todoOk,hp'];first|rfl|(simp;done)|(simp;omega),he⟩
theorem rqB80 {p:Prop} (h:p:=by intro KQ hKQ;(repeat (first|go_big_quiet_skip|(go_big_quiet_want;first|(refine quiet_load _ _ _ ?_ rfl rfl (fun wq hq=>?_) ?_;rotate_left;(focus ((try have y0:=hq.cell x0);(try have y1:=hq.cell x1);(try have y2:=hq.cell x2);(try have y3:=hq.cell x3);(try have y4:=hq.cell x4);(try have y5:=hq.cell x5);(try have y6:=hq.cell x6);(try have u0:=hq.cell g0);(try have u1:=hq.cell g1);(try have u2:=hq.cell g2);(try have u3:=hq.cell g3);(try have q1:=hq.cell J1);(try have q2:=hq.cell J2);go_simp;first|done|rfl));(try simp only [redA,Act.put]);go_big_quiet_on)|(go_big_quiet_op;first|go_big_quiet_on|(refine⟨_,fun _ _=>rfl,?_⟩;go_big_quiet_on)|(apply Exists.intro;refine⟨fun wq hq=>?_,?_⟩;(focus (exact call_ext hq (by have c:=gotOk_e wq d.Kind d.Op.Kind d.Op.A d.Op.B d.Op.C d.Op.D d.Key g.Seq g.Index g.Has g.Value ((k:Int)+1) z;rw [show gotOk (⟨d.Kind,⟨d.Op.Kind,d.Op.A,d.Op.B,d.Op.C,d.Op.D⟩,d.Key⟩:DWant) (⟨g.Seq,g.Index,g.Has,g.Value⟩:DGot) ((k:Int)+1) z=false from hb] at c;exact c)));go_big_quiet_on)))));exact wpQuiet_nil hKQ):p:=h
theorem rqB81 {p:Prop} (h:p:=by intro KQ hKQ;(repeat (first|go_big_quiet_skip|(go_big_quiet_want;first|(refine quiet_load _ _ _ ?_ rfl rfl (fun wq hq=>?_) ?_;rotate_left;(focus ((try have y0:=hq.cell x0);(try have y1:=hq.cell x1);(try have y2:=hq.cell x2);(try have y3:=hq.cell x3);(try have y4:=hq.cell x4);(try have y5:=hq.cell x5);(try have y6:=hq.cell x6);(try have u0:=hq.cell g0);(try have u1:=hq.cell g1);(try have u2:=hq.cell g2);(try have u3:=hq.cell g3);(try have q1:=hq.cell J1);(try have q2:=hq.cell J2);go_simp;first|done|rfl));(try simp only [redA,Act.put]);go_big_quiet_on)|(go_big_quiet_op;first|go_big_quiet_on|(refine⟨_,fun _ _=>rfl,?_⟩;go_big_quiet_on)|(apply Exists.intro;refine⟨fun wq hq=>?_,?_⟩;(focus (exact call_ext hq (by have c:=gotOk_e wq d.Kind d.Op.Kind d.Op.A d.Op.B d.Op.C d.Op.D d.Key g.Seq g.Index g.Has g.Value ((k:Int)+1) z;rw [show gotOk (⟨d.Kind,⟨d.Op.Kind,d.Op.A,d.Op.B,d.Op.C,d.Op.D⟩,d.Key⟩:DWant) (⟨g.Seq,g.Index,g.Has,g.Value⟩:DGot) ((k:Int)+1) z=true from hb] at c;exact c)));go_big_quiet_on)))));exact wpQuiet_nil hKQ):p:=h
theorem clientOk_c (w:World) (c0_0:Int) (s0_1:Value) (l0_1:List DWant) (s0_2:Value) (l0_2:List DGot) (c0_3:Int) (h0_1:Ints 7 w s0_1 (flWant l0_1)) (h0_2:Ints 4 w s0_2 (flGot l0_2)) :
  Calls Tryz.prog 171 #[.agg #[.int .i64 c0_0,s0_1,s0_2,.int .i64 c0_3]] w (RetV w (.bool (clientOk (⟨c0_0,l0_1,l0_2,c0_3⟩:DClient)))):=by
 obtain⟨a1,cap1,rfl,hcap1,hm1,ha1⟩:=h0_1.recs (f:=DWant.ints) (fun _=>rfl) dC
 obtain⟨a2,cap2,rfl,hcap2,hm2,ha2⟩:=h0_2.recs (f:=DGot.ints) (fun _=>rfl) dC
 have HA:=Lib.hid ha1;have HG:=Lib.hid ha2
 clear ha1 ha2
 unfold maxLen at hm1 hm2
 obtain⟨W0,hW0⟩:∃ W0,W0=w.alloc (.cells #[.int .i64 c0_0,.slice a1 l0_1.length cap1,.slice a2 l0_2.length cap2,.int .i64 c0_3] 100):=⟨_,rfl⟩
 have hEw:Ext w W0:=by rw [hW0];exact (Ext.refl _).alloc _
 have KX:Blk W0 w.heap.size 100 #[.int .i64 c0_0,.slice a1 l0_1.length cap1,.slice a2 l0_2.length cap2,.int .i64 c0_3]:=by rw [hW0];exact Blk.new _ _ _
 have I0:=KX.cell 0;have I1:=KX.cell 1;have I2:=KX.cell 2;have I3:=KX.cell 3
 simp only [List.getElem?_toArray,List.getElem?_cons_zero,List.getElem?_cons_succ] at I0 I1 I2 I3
 go_enter Tryz.func171,Tryz.ntmps171
 go_upto_region 1 with (fail)
 rw [← hW0]
 clear hW0 KX
 by_cases hid:c0_0=4 ∨ c0_0=5
 rotate_left
 ·
  have i4:(c0_0 != 4)=true:=by simp;omega
  have i5:(c0_0 != 5)=true:=by simp;omega
  go_wp2_with fail
  go_ret
  exact⟨by rw [show clientOk (⟨c0_0,l0_1,l0_2,c0_3⟩:DClient)=false from by simp [clientOk];intro h;exact absurd h hid];try rfl,by exact extT⟩
 have HID:=Lib.hid hid
 have HID2:Hid ((c0_0 != 4)=false ∨ ((c0_0 != 4)=true∧(c0_0 != 5)=false)):=Lib.hid (by rcases hid with rfl|rfl <;> simp)
 clear hid
 cases htd:todoOk l0_1
 ·
  rcases HID2.out with i4|⟨i4,i5⟩
  all_goals
   go_wp2_with (first|(go_at_call 70;refine (todoOk_c _ _ l0_1 (h0_1.ext extT)).mono ?_;rintro e9 w1 ⟨rfl,hx1⟩;rw [htd];have J0:=hx1.cell I0;have J1:=hx1.cell I1;have J2:=hx1.cell I2;have J3:=hx1.cell I3;have hLb:w.heap.size<w1.heap.size:=World.block_lt_of_cell? _ _ J1))
   go_ret
   exact⟨by rw [show clientOk (⟨c0_0,l0_1,l0_2,c0_3⟩:DClient)=false from by simp [clientOk,htd]];try rfl,by exact extT⟩
 have HTODO:=Lib.hid htd
 by_cases hgl:l0_2.length≤l0_1.length
 rotate_left
 ·
  have hg1:decide (l0_1.length<l0_2.length)=true:=by simp;omega
  rcases HID2.out with i4|⟨i4,i5⟩
  all_goals
   go_wp2_with (first|(go_at_call 70;refine (todoOk_c _ _ l0_1 (h0_1.ext extT)).mono ?_;rintro e9 w1 ⟨rfl,hx1⟩;rw [htd];have J0:=hx1.cell I0;have J1:=hx1.cell I1;have J2:=hx1.cell I2;have J3:=hx1.cell I3;have hLb:w.heap.size<w1.heap.size:=World.block_lt_of_cell? _ _ J1))
   go_ret
   exact⟨by rw [show clientOk (⟨c0_0,l0_1,l0_2,c0_3⟩:DClient)=false from by simp [clientOk,hgl]];try rfl,by exact extT⟩
 have hg1:decide (l0_1.length<l0_2.length)=false:=by simp;omega
 go_cut [28] (fun cx0 wx=>cx0=.bool false∧Ext W0 wx)
 case first =>
  rcases HID2.out with i4|⟨i4,i5⟩
  all_goals
   go_wp2_with (first|(go_at_call 70;refine (todoOk_c _ _ l0_1 (h0_1.ext extT)).mono ?_;rintro e9 w1 ⟨rfl,hx1⟩;rw [htd];have J0:=hx1.cell I0;have J1:=hx1.cell I1;have J2:=hx1.cell I2;have J3:=hx1.cell I3;have hLb:w.heap.size<w1.heap.size:=World.block_lt_of_cell? _ _ J1))
   go_meet
   case rel=>exact⟨by first|rfl|(simp [*];done),by exact extT⟩
 revert wc;intro w1 hcut
 obtain⟨rfl,hx1⟩:=hcut
 have J0:=hx1.cell I0;have J1:=hx1.cell I1;have J2:=hx1.cell I2;have J3:=hx1.cell I3
 have hLb:w.heap.size<w1.heap.size:=World.block_lt_of_cell? _ _ J1
 go_wp2_with fail
 go_loopw [3,32] (fun lv ii wr=>∃ k:Nat,k≤l0_2.length∧ii=.int .i64 k∧(∃ z:Int,Hid (gotsTo l0_1 l0_2 k=some z)∧lv=.int .i64 z)∧Ext W0 wr) (fun _ ii _=>l0_2.length - (intOf ii).toNat)
 case atStart=>exact⟨0,Nat.zero_le _,rfl,⟨0,Lib.hid rfl,rfl⟩,hx1⟩
 case round =>
  skip
  obtain⟨k,hk,rfl,⟨z,HZ,rfl⟩,he⟩:=hrel
  have hEr:=hEw.trans he
  have J0:=he.cell I0;have J1:=he.cell I1;have J2:=he.cell I2;have J3:=he.cell I3
  by_cases hlt:k<l0_2.length
  ·
   obtain⟨g,b2,o2,hg,rfl,hbg,cg⟩:=HG.out k hlt
   obtain⟨d,b1,o1,hd,rfl,hb1,cd⟩:=HA.out k oM
   have x0:=hEr.cell (cd 0 _ dC rfl)
   have x1:=hEr.cell (cd 1 _ dC rfl)
   have x2:=hEr.cell (cd 2 _ dC rfl)
   have x3:=hEr.cell (cd 3 _ dC rfl)
   have x4:=hEr.cell (cd 4 _ dC rfl)
   have x5:=hEr.cell (cd 5 _ dC rfl)
   have x6:=hEr.cell (cd 6 _ dC rfl)
   have g0:=hEr.cell (cg 0 _ dC rfl)
   have g1:=hEr.cell (cg 1 _ dC rfl)
   have g2:=hEr.cell (cg 2 _ dC rfl)
   have g3:=hEr.cell (cg 3 _ dC rfl)
   simp only [Nat.add_zero] at x0 g0
   have hwr:IntKind.i64.wrap ((k:Int)+1)=(k:Int)+1:=by rw [IntKind.wrap_i64] <;> omega
   have hLb:w.heap.size<wr.heap.size:=World.block_lt_of_cell? _ _ J1
   have HD:=Lib.hid hd;have HGK:=Lib.hid hg
   clear cd cg hd hg
   cases hb:gotOk d g ((k:Int)+1) z
   ·
    go_upto_region 7 with (fail)
    obtain⟨W,hW⟩:∃ W,W=wr.alloc (.cells #[.int .i64 g.Seq,.int .i64 g.Index,.int .i64 g.Has,.int .i64 g.Value] 276):=⟨_,rfl⟩
    have heR:Ext wr W:=by rw [hW];exact (Ext.refl wr).alloc _
    have KG:Blk W wr.heap.size 276 #[.int .i64 g.Seq,.int .i64 g.Index,.int .i64 g.Has,.int .i64 g.Value]:=by rw [hW];exact Blk.new _ _ _
    rw [← hW]
    clear hW g0 g1 g2 g3
    have g0:=KG.cell 0;have g1:=KG.cell 1;have g2:=KG.cell 2;have g3:=KG.cell 3
    simp only [List.getElem?_toArray,List.getElem?_cons_zero,List.getElem?_cons_succ] at g0 g1 g2 g3
    have x0:=heR.cell x0;have x1:=heR.cell x1;have x2:=heR.cell x2;have x3:=heR.cell x3;have x4:=heR.cell x4;have x5:=heR.cell x5;have x6:=heR.cell x6;have J1:=heR.cell J1;have J2:=heR.cell J2;have J0:=heR.cell J0;have J3:=heR.cell J3
    have hGb:wr.heap.size<W.heap.size:=KG.lt
    refine rx0 rqB80 fun w1 hx1=>?_
    go_wp2_with fail
    go_ret
    exact⟨by rw [show clientOk (⟨c0_0,l0_1,l0_2,c0_3⟩:DClient)=false from clientOk_no (c:=(⟨c0_0,l0_1,l0_2,c0_3⟩:DClient)) HZ.out HD.out HGK.out hb];try rfl,by exact extT⟩
   go_upto_region 7 with (fail)
   obtain⟨W,hW⟩:∃ W,W=wr.alloc (.cells #[.int .i64 g.Seq,.int .i64 g.Index,.int .i64 g.Has,.int .i64 g.Value] 276):=⟨_,rfl⟩
   have heR:Ext wr W:=by rw [hW];exact (Ext.refl wr).alloc _
   have KG:Blk W wr.heap.size 276 #[.int .i64 g.Seq,.int .i64 g.Index,.int .i64 g.Has,.int .i64 g.Value]:=by rw [hW];exact Blk.new _ _ _
   rw [← hW]
   clear hW g0 g1 g2 g3
   have g0:=KG.cell 0;have g1:=KG.cell 1;have g2:=KG.cell 2;have g3:=KG.cell 3
   simp only [List.getElem?_toArray,List.getElem?_cons_zero,List.getElem?_cons_succ] at g0 g1 g2 g3
   have x0:=heR.cell x0;have x1:=heR.cell x1;have x2:=heR.cell x2;have x3:=heR.cell x3;have x4:=heR.cell x4;have x5:=heR.cell x5;have x6:=heR.cell x6;have J1:=heR.cell J1;have J2:=heR.cell J2;have J0:=heR.cell J0;have J3:=heR.cell J3
   have hGb:wr.heap.size<W.heap.size:=KG.lt
   refine rx0 rqB81 fun w1 hx1=>?_
   have g1:=hx1.cell g1;have hGb1:wr.heap.size<w1.heap.size:=World.block_lt_of_cell? _ _ g1
   go_wp2_with fail
   go_roundw
   case rel=>exact⟨k+1,by omega,by go_num,⟨g.Index,Lib.hid (by rw [gotsTo_step HZ.out HD.out HGK.out,hb];rfl),rfl⟩,by exact extT⟩
   case measure=>simp [intOf];omega
  obtain rfl:k=l0_2.length:=by omega
  have hfin:clientOk (⟨c0_0,l0_1,l0_2,c0_3⟩:DClient)=decide (c0_3=z):=by
   simp only [clientOk,HZ.out,HTODO.out,Bool.true_and]
   rw [show decide (l0_2.length≤l0_1.length)=true by simpa using hgl]
   rw [show (decide (c0_0=4) || decide (c0_0=5))=true by simpa using HID.out]
   by_cases h:c0_3=z
   ·
    simp [h]
   simp [h];exact fun e=>h e.symm
  have HFIN:=Lib.hid hfin
  clear hfin
  go_wp2_with fail
  go_ret
  exact⟨by rw [HFIN.out];first|rfl|(simp [bq];done),by exact extT⟩
theorem rqB82 {p:Prop} (h:p:=by intro KQ hKQ;(repeat (first|go_big_quiet_skip|(go_big_quiet_want;first|(refine quiet_load _ _ _ ?_ rfl rfl (fun wq hq=>?_) ?_;rotate_left;(focus ((try have y0:=hq.cell x0);(try have y1:=hq.cell x1);(try have y2:=hq.cell x2);(try have y3:=hq.cell x3);(try have y4:=hq.cell x4);(try have y5:=hq.cell x5);(try have y6:=hq.cell x6);go_simp;first|done|rfl));(try simp only [redA,Act.put]);go_big_quiet_on)|(go_big_quiet_op;first|go_big_quiet_on|(refine⟨_,fun _ _=>rfl,?_⟩;go_big_quiet_on)|(apply Exists.intro;refine⟨fun wq hq=>?_,?_⟩;(focus (first|(go_at_call 323;exact call_same hq (lk wq))|(go_at_call 321;exact call_ext hq (by have c:=sOpOk_e wq c0_1 c0_2 c0_3 c0_4 c0_5;rw [show opOk (⟨c0_1,c0_2,c0_3,c0_4,c0_5⟩:DOp)=_ from ho] at c;exact c))));go_big_quiet_on)))));exact wpQuiet_nil hKQ):p:=h
theorem sWantOk_e (w:World) (c0_0:Int) (c0_1:Int) (c0_2:Int) (c0_3:Int) (c0_4:Int) (c0_5:Int) (c0_6:Int) :
  Calls Tryz.prog 214 #[.agg #[.int .i64 c0_0,.int .i64 c0_1,.int .i64 c0_2,.int .i64 c0_3,.int .i64 c0_4,.int .i64 c0_5,.int .i64 c0_6]] w (RetV w (.bool (wantOk (⟨c0_0,⟨c0_1,c0_2,c0_3,c0_4,c0_5⟩,c0_6⟩:DWant)))):=by
 by_cases h4:c0_0=4
 ·
  subst h4
  go_enter Tryz.func214,Tryz.ntmps214
  go_wp2_with (first|(go_at_call 322;refine (l7Key_e _ _).mono ?_;rintro e9 w9 ⟨rfl,rfl⟩))
  all_goals
   go_ret
   exact⟨by first|rfl|(simp [wantOk,opZ, *];done)|(simp_all [wantOk,opZ,bq,bn];done)|(simp_all [wantOk,opZ,bq,bn];omega),by exact extT⟩
 go_enter Tryz.func214,Tryz.ntmps214
 have hb4:(c0_0 == 4)=false:=by simpa using h4
 go_upto_region 3 with (fail)
 obtain⟨W,hW⟩:∃ W,W=w.alloc (.cells #[.int .i64 c0_0,.int .i64 c0_1,.int .i64 c0_2,.int .i64 c0_3,.int .i64 c0_4,.int .i64 c0_5,.int .i64 c0_6] 161):=⟨_,rfl⟩
 have KX:Blk W w.heap.size 161 #[.int .i64 c0_0,.int .i64 c0_1,.int .i64 c0_2,.int .i64 c0_3,.int .i64 c0_4,.int .i64 c0_5,.int .i64 c0_6]:=by rw [hW];exact Blk.new _ _ _
 have hEW:Ext w W:=by rw [hW];exact (Ext.refl _).alloc _
 rw [← hW]
 clear hW
 have x0:W.cell? ⟨w.heap.size,0,none⟩=some (.int .i64 c0_0):=KX.cell 0
 have x1:W.cell? ⟨w.heap.size,1,none⟩=some (.int .i64 c0_1):=KX.cell 1
 have x2:W.cell? ⟨w.heap.size,2,none⟩=some (.int .i64 c0_2):=KX.cell 2
 have x3:W.cell? ⟨w.heap.size,3,none⟩=some (.int .i64 c0_3):=KX.cell 3
 have x4:W.cell? ⟨w.heap.size,4,none⟩=some (.int .i64 c0_4):=KX.cell 4
 have x5:W.cell? ⟨w.heap.size,5,none⟩=some (.int .i64 c0_5):=KX.cell 5
 have x6:W.cell? ⟨w.heap.size,6,none⟩=some (.int .i64 c0_6):=KX.cell 6
 obtain⟨kk,hkk⟩:∃ kk,kk=opKind c0_0:=⟨_,rfl⟩
 have lk:∀ wq,Calls Tryz.prog 323 #[.int .i64 c0_0] wq (fun e w'=>e=.returned (.int .i64 kk)∧wq=w'):=fun wq=>hkk ▸ l13Op_e wq c0_0
 by_cases hz:kk=0
 ·
  have hz1:(kk != 0)=false:=by simpa using hz
  have hn:¬ (c0_0=1 ∨ c0_0=2 ∨ c0_0=3):=by
   rintro (rfl|rfl|rfl) <;> simp [opKind] at hkk <;> omega
  have HN:=Lib.hid hn
  clear hn hz hkk
  refine rx0 rqB82 fun w1 hx1=>?_
  go_wp2_with fail
  go_ret
  exact⟨by rw [show wantOk (⟨c0_0,⟨c0_1,c0_2,c0_3,c0_4,c0_5⟩,c0_6⟩:DWant)=false from by simp only [wantOk];rw [if_neg h4];have:=HN.out;simp;intro h;exact absurd h this];try rfl,by exact extT⟩
 have hz1:(kk != 0)=true:=by simpa using hz
 have hk:kk=c0_0∧(c0_0=1 ∨ c0_0=2 ∨ c0_0=3):=by
  simp only [opKind] at hkk;split at hkk
  ·
   omega
  split at hkk
  ·
   omega
  split at hkk <;> omega
 have HK:=Lib.hid hk
 clear hk hkk hz
 by_cases h1:c0_1=kk
 rotate_left
 ·
  have h1b:(c0_1 == kk)=false:=by simpa using h1
  refine rx0 rqB82 fun w1 hx1=>?_
  go_wp2_with fail
  go_ret
  exact⟨by rw [show wantOk (⟨c0_0,⟨c0_1,c0_2,c0_3,c0_4,c0_5⟩,c0_6⟩:DWant)=false from by simp only [wantOk];rw [if_neg h4,show decide (c0_1=c0_0)=false by have:=HK.out;simp;omega];simp];try rfl,by exact extT⟩
 have h1b:(c0_1 == kk)=true:=by simpa using h1
 have H1:=Lib.hid h1
 clear h1
 cases ho:opOk (⟨c0_1,c0_2,c0_3,c0_4,c0_5⟩:DOp)
 ·
  refine rx0 rqB82 fun w1 hx1=>?_
  go_wp2_with fail
  go_ret
  exact⟨by rw [show wantOk (⟨c0_0,⟨c0_1,c0_2,c0_3,c0_4,c0_5⟩,c0_6⟩:DWant)=false from by simp only [wantOk];rw [if_neg h4,ho];simp];try rfl,by exact extT⟩
 refine rx0 rqB82 fun w1 hx1=>?_
 go_wp2_with fail
 go_ret
 exact⟨by rw [show wantOk (⟨c0_0,⟨c0_1,c0_2,c0_3,c0_4,c0_5⟩,c0_6⟩:DWant)=decide (c0_6=0) from by simp only [wantOk];rw [if_neg h4,ho,show decide (c0_1=c0_0)=true by have:=HK.out;have:=H1.out;simp;omega];rcases HK.out.2 with h|h|h <;> simp [h]];first|rfl|(simp [bq];done),by exact extT⟩
theorem rqB83 {p:Prop} (h:p:=by intro KQ hKQ;(repeat (first|go_big_quiet_skip|(go_big_quiet_want;first|(refine quiet_load _ _ _ ?_ rfl rfl (fun wq hq=>?_) ?_;rotate_left;(focus ((try have y0:=hq.cell x0);(try have y1:=hq.cell x1);(try have y2:=hq.cell x2);(try have y3:=hq.cell x3);(try have y4:=hq.cell x4);(try have y5:=hq.cell x5);(try have y6:=hq.cell x6);(try have u0:=hq.cell g0);(try have u1:=hq.cell g1);(try have u2:=hq.cell g2);(try have u3:=hq.cell g3);(try have q1:=hq.cell J1);(try have q2:=hq.cell J2);go_simp;first|done|rfl));(try simp only [redA,Act.put]);go_big_quiet_on)|(go_big_quiet_op;first|go_big_quiet_on|(refine⟨_,fun _ _=>rfl,?_⟩;go_big_quiet_on)|(apply Exists.intro;refine⟨fun wq hq=>?_,?_⟩;(focus (exact call_ext hq (by have c:=l13Got_e wq d.Kind d.Op.Kind d.Op.A d.Op.B d.Op.C d.Op.D d.Key g.Seq g.Index g.Has g.Value ((k:Int)+1) z;rw [show gotOk (⟨d.Kind,⟨d.Op.Kind,d.Op.A,d.Op.B,d.Op.C,d.Op.D⟩,d.Key⟩:DWant) (⟨g.Seq,g.Index,g.Has,g.Value⟩:DGot) ((k:Int)+1) z=false from hb] at c;exact c)));go_big_quiet_on)))));exact wpQuiet_nil hKQ):p:=h
theorem rqB84 {p:Prop} (h:p:=by intro KQ hKQ;(repeat (first|go_big_quiet_skip|(go_big_quiet_want;first|(refine quiet_load _ _ _ ?_ rfl rfl (fun wq hq=>?_) ?_;rotate_left;(focus ((try have y0:=hq.cell x0);(try have y1:=hq.cell x1);(try have y2:=hq.cell x2);(try have y3:=hq.cell x3);(try have y4:=hq.cell x4);(try have y5:=hq.cell x5);(try have y6:=hq.cell x6);(try have u0:=hq.cell g0);(try have u1:=hq.cell g1);(try have u2:=hq.cell g2);(try have u3:=hq.cell g3);(try have q1:=hq.cell J1);(try have q2:=hq.cell J2);go_simp;first|done|rfl));(try simp only [redA,Act.put]);go_big_quiet_on)|(go_big_quiet_op;first|go_big_quiet_on|(refine⟨_,fun _ _=>rfl,?_⟩;go_big_quiet_on)|(apply Exists.intro;refine⟨fun wq hq=>?_,?_⟩;(focus (exact call_ext hq (by have c:=l13Got_e wq d.Kind d.Op.Kind d.Op.A d.Op.B d.Op.C d.Op.D d.Key g.Seq g.Index g.Has g.Value ((k:Int)+1) z;rw [show gotOk (⟨d.Kind,⟨d.Op.Kind,d.Op.A,d.Op.B,d.Op.C,d.Op.D⟩,d.Key⟩:DWant) (⟨g.Seq,g.Index,g.Has,g.Value⟩:DGot) ((k:Int)+1) z=true from hb] at c;exact c)));go_big_quiet_on)))));exact wpQuiet_nil hKQ):p:=h
theorem sClientOk_c (w:World) (c0_0:Int) (s0_1:Value) (l0_1:List DWant) (s0_2:Value) (l0_2:List DGot) (c0_3:Int) (h0_1:Ints 7 w s0_1 (flWant l0_1)) (h0_2:Ints 4 w s0_2 (flGot l0_2)) :
  Calls Tryz.prog 111 #[.agg #[.int .i64 c0_0,s0_1,s0_2,.int .i64 c0_3]] w (RetV w (.bool (clientOk (⟨c0_0,l0_1,l0_2,c0_3⟩:DClient)))):=by
 obtain⟨a1,cap1,rfl,hcap1,hm1,ha1⟩:=h0_1.recs (f:=DWant.ints) (fun _=>rfl) dC
 obtain⟨a2,cap2,rfl,hcap2,hm2,ha2⟩:=h0_2.recs (f:=DGot.ints) (fun _=>rfl) dC
 have HA:=Lib.hid ha1;have HG:=Lib.hid ha2
 clear ha1 ha2
 unfold maxLen at hm1 hm2
 obtain⟨W0,hW0⟩:∃ W0,W0=w.alloc (.cells #[.int .i64 c0_0,.slice a1 l0_1.length cap1,.slice a2 l0_2.length cap2,.int .i64 c0_3] 100):=⟨_,rfl⟩
 have hEw:Ext w W0:=by rw [hW0];exact (Ext.refl _).alloc _
 have KX:Blk W0 w.heap.size 100 #[.int .i64 c0_0,.slice a1 l0_1.length cap1,.slice a2 l0_2.length cap2,.int .i64 c0_3]:=by rw [hW0];exact Blk.new _ _ _
 have I0:=KX.cell 0;have I1:=KX.cell 1;have I2:=KX.cell 2;have I3:=KX.cell 3
 simp only [List.getElem?_toArray,List.getElem?_cons_zero,List.getElem?_cons_succ] at I0 I1 I2 I3
 go_enter Tryz.func111,Tryz.ntmps111
 go_upto_region 1 with (fail)
 rw [← hW0]
 clear hW0 KX
 by_cases hid:c0_0=4 ∨ c0_0=5
 rotate_left
 ·
  have i4:(c0_0 != 4)=true:=by simp;omega
  have i5:(c0_0 != 5)=true:=by simp;omega
  go_wp2_with fail
  go_ret
  exact⟨by rw [show clientOk (⟨c0_0,l0_1,l0_2,c0_3⟩:DClient)=false from by simp [clientOk];intro h;exact absurd h hid];try rfl,by exact extT⟩
 have HID:=Lib.hid hid
 have HID2:Hid ((c0_0 != 4)=false ∨ ((c0_0 != 4)=true∧(c0_0 != 5)=false)):=Lib.hid (by rcases hid with rfl|rfl <;> simp)
 clear hid
 by_cases h12:l0_1.length≤12
 rotate_left
 ·
  have h12b:decide (12<l0_1.length)=true:=by simp;omega
  rcases HID2.out with i4|⟨i4,i5⟩
  all_goals
   go_wp2_with fail
   go_ret
   exact⟨by rw [show clientOk (⟨c0_0,l0_1,l0_2,c0_3⟩:DClient)=false from by simp [clientOk,todoOk,h12]];try rfl,by exact extT⟩
 have h12b:decide (12<l0_1.length)=false:=by simp;omega
 by_cases hgl:l0_2.length≤l0_1.length
 rotate_left
 ·
  have hg1:decide (l0_1.length<l0_2.length)=true:=by simp;omega
  rcases HID2.out with i4|⟨i4,i5⟩
  all_goals
   go_wp2_with fail
   go_ret
   exact⟨by rw [show clientOk (⟨c0_0,l0_1,l0_2,c0_3⟩:DClient)=false from by simp [clientOk,hgl]];try rfl,by exact extT⟩
 have hg1:decide (l0_1.length<l0_2.length)=false:=by simp;omega
 go_cut [28] (fun cx0 wx=>cx0=.bool false∧Ext W0 wx)
 case first =>
  rcases HID2.out with i4|⟨i4,i5⟩
  all_goals
   go_wp2_with fail
   go_meet
   case rel=>exact⟨by first|rfl|(simp [*];done),by exact extT⟩
 revert wc;intro w1 hcut
 obtain⟨rfl,hx1⟩:=hcut
 have J0:=hx1.cell I0;have J1:=hx1.cell I1;have J2:=hx1.cell I2;have J3:=hx1.cell I3
 have hLb:w.heap.size<w1.heap.size:=World.block_lt_of_cell? _ _ J1
 go_wp2_with fail
 go_loopw [3] (fun i wr=>∃ k:Nat,k≤l0_1.length∧i=.int .i64 k∧Ext W0 wr∧Hid ((l0_1.take k).all wantOk=true)) (fun i _=>l0_1.length - (intOf i).toNat)
 case atStart=>exact⟨0,Nat.zero_le _,rfl,hx1,Lib.hid (by simp)⟩
 case round =>
  clear hx1 J0 J1 J2 J3 hLb
  obtain⟨k,hk,rfl,he,hp⟩:=hrel
  have hEr:=hEw.trans he
  have J0:=he.cell I0;have J1:=he.cell I1;have J2:=he.cell I2;have J3:=he.cell I3
  have hLb:w.heap.size<wr.heap.size:=World.block_lt_of_cell? _ _ J1
  by_cases hlt:k<l0_1.length
  ·
   obtain⟨d,b1,o1,hd,rfl,hb1,c⟩:=HA.out k hlt
   have d0:=hEr.cell (c 0 _ dC rfl)
   have d1:=hEr.cell (c 1 _ dC rfl)
   have d2:=hEr.cell (c 2 _ dC rfl)
   have d3:=hEr.cell (c 3 _ dC rfl)
   have d4:=hEr.cell (c 4 _ dC rfl)
   have d5:=hEr.cell (c 5 _ dC rfl)
   have d6:=hEr.cell (c 6 _ dC rfl)
   simp only [Nat.add_zero] at d0
   have HD:=Lib.hid hd
   clear c hd
   cases hb:wantOk d
   ·
    go_wp2_with (first|(go_at_call 214;refine (sWantOk_e _ d.Kind d.Op.Kind d.Op.A d.Op.B d.Op.C d.Op.D d.Key).mono ?_;rintro e9 w1 ⟨rfl,hx1⟩;rw [show wantOk (⟨d.Kind,⟨d.Op.Kind,d.Op.A,d.Op.B,d.Op.C,d.Op.D⟩,d.Key⟩:DWant)=_ from hb]))
    go_ret
    exact⟨by rw [show clientOk (⟨c0_0,l0_1,l0_2,c0_3⟩:DClient)=false from by simp only [clientOk,todoOk];rw [all_no (p:=wantOk) (l:=l0_1) HD.out hb];simp];try rfl,by exact extT⟩
   go_wp2_with (first|(go_at_call 214;refine (sWantOk_e _ d.Kind d.Op.Kind d.Op.A d.Op.B d.Op.C d.Op.D d.Key).mono ?_;rintro e9 w1 ⟨rfl,hx1⟩;rw [show wantOk (⟨d.Kind,⟨d.Op.Kind,d.Op.A,d.Op.B,d.Op.C,d.Op.D⟩,d.Key⟩:DWant)=_ from hb]))
   go_roundw
   case rel=>exact⟨k+1,by omega,by go_num,by exact extT,Lib.hid (all_step HD.out hp.out hb)⟩
   case measure=>simp [intOf];omega
  obtain rfl:k=l0_1.length:=by omega
  have hp':=hp.out
  rw [List.take_length] at hp'
  have HTODO:Hid (todoOk l0_1=true):=Lib.hid (by rw [todoOk,hp'];simpa using h12)
  clear hp hp'
  go_wp2_with fail
  go_loopw [4,5] (fun lv ii wr=>∃ k:Nat,k≤l0_2.length∧ii=.int .i64 k∧(∃ z:Int,Hid (gotsTo l0_1 l0_2 k=some z)∧lv=.int .i64 z)∧Ext W0 wr) (fun _ ii _=>l0_2.length - (intOf ii).toNat)
  case atStart=>exact⟨0,Nat.zero_le _,rfl,⟨0,Lib.hid rfl,rfl⟩,he⟩
  case round =>
   clear he hEr J0 J1 J2 J3 hLb
   obtain⟨k,hk,rfl,⟨z,HZ,rfl⟩,he⟩:=hrel
   have hEr:=hEw.trans he
   have J0:=he.cell I0;have J1:=he.cell I1;have J2:=he.cell I2;have J3:=he.cell I3
   by_cases hlt:k<l0_2.length
   ·
    obtain⟨g,b2,o2,hg,rfl,hbg,cg⟩:=HG.out k hlt
    obtain⟨d,b1,o1,hd,rfl,hb1,cd⟩:=HA.out k oM
    have x0:=hEr.cell (cd 0 _ dC rfl)
    have x1:=hEr.cell (cd 1 _ dC rfl)
    have x2:=hEr.cell (cd 2 _ dC rfl)
    have x3:=hEr.cell (cd 3 _ dC rfl)
    have x4:=hEr.cell (cd 4 _ dC rfl)
    have x5:=hEr.cell (cd 5 _ dC rfl)
    have x6:=hEr.cell (cd 6 _ dC rfl)
    have g0:=hEr.cell (cg 0 _ dC rfl)
    have g1:=hEr.cell (cg 1 _ dC rfl)
    have g2:=hEr.cell (cg 2 _ dC rfl)
    have g3:=hEr.cell (cg 3 _ dC rfl)
    simp only [Nat.add_zero] at x0 g0
    have hwr:IntKind.i64.wrap ((k:Int)+1)=(k:Int)+1:=by rw [IntKind.wrap_i64] <;> omega
    have hLb:w.heap.size<wr.heap.size:=World.block_lt_of_cell? _ _ J1
    have HD:=Lib.hid hd;have HGK:=Lib.hid hg
    clear cd cg hd hg
    cases hb:gotOk d g ((k:Int)+1) z
    ·
     go_upto_region 12 with (fail)
     refine rx0 rqB83 fun w1 hx1=>?_
     go_wp2_with fail
     go_ret
     exact⟨by rw [show clientOk (⟨c0_0,l0_1,l0_2,c0_3⟩:DClient)=false from clientOk_no (c:=(⟨c0_0,l0_1,l0_2,c0_3⟩:DClient)) HZ.out HD.out HGK.out hb];try rfl,by exact extT⟩
    go_upto_region 12 with (fail)
    refine rx0 rqB84 fun w1 hx1=>?_
    have g1:=hx1.cell g1;have J2:=hx1.cell J2;have hLb1:w.heap.size<w1.heap.size:=World.block_lt_of_cell? _ _ J2
    go_wp2_with fail
    go_roundw
    case rel=>exact⟨k+1,by omega,by go_num,⟨g.Index,Lib.hid (by rw [gotsTo_step HZ.out HD.out HGK.out,hb];rfl),rfl⟩,by exact extT⟩
    case measure=>simp [intOf];omega
   obtain rfl:k=l0_2.length:=by omega
   have hfin:clientOk (⟨c0_0,l0_1,l0_2,c0_3⟩:DClient)=decide (c0_3=z):=by
    simp only [clientOk,HZ.out,HTODO.out,Bool.true_and]
    rw [show decide (l0_2.length≤l0_1.length)=true by simpa using hgl]
    rw [show (decide (c0_0=4) || decide (c0_0=5))=true by simpa using HID.out]
    by_cases h:c0_3=z
    ·
     simp [h]
    simp [h];exact fun e=>h e.symm
   have HFIN:=Lib.hid hfin
   clear hfin
   go_wp2_with fail
   go_ret
   exact⟨by rw [HFIN.out];first|rfl|(simp [bq];done),by exact extT⟩
theorem l5Node_e (w:World) (c0_0:Int) :
  Calls Tryz.prog 217 #[.int .i64 c0_0] w (fun e w'=>e=.returned (.bool (inb c0_0 0 5))∧w=w'):=by
 have rsize_setRow:=@size_setRow
 have rcell_setRow_lt:=@cell_setRow_lt
 have rcell_setRow_gt:=@cell_setRow_gt
 have rfrozen_setRow_lt:=@frozen_setRow_lt
 have rfrozen_setRow_gt:=@frozen_setRow_gt
 go_enter Tryz.func217,Tryz.ntmps217
 go_wp2_with (first|(go_at_call 303;refine (l1In_c _ _ _ _  ).mono ?_;rintro e wa ⟨rfl,rfl⟩))
 all_goals
  go_ret
  refine⟨by first|rfl|(simp [*];done)|(simp [*];omega)|(simp_all [bq,bn];done)|(simp_all [bq,bn];omega),by rfl⟩
theorem l5LinkLess_e (w:World) (c0_0:Int) (c0_1:Int) (c1_0:Int) (c1_1:Int) :
  Calls Tryz.prog 218 #[.agg #[.int .i64 c0_0,.int .i64 c0_1],.agg #[.int .i64 c1_0,.int .i64 c1_1]] w (RetV w (.bool (linkLess (⟨c0_0,c0_1⟩:DLink) (⟨c1_0,c1_1⟩:DLink)))):=by
 have rsize_setRow:=@size_setRow
 have rcell_setRow_lt:=@cell_setRow_lt
 have rcell_setRow_gt:=@cell_setRow_gt
 have rfrozen_setRow_lt:=@frozen_setRow_lt
 have rfrozen_setRow_gt:=@frozen_setRow_gt
 go_enter Tryz.func218,Tryz.ntmps218
 go_wp2
 all_goals
  go_ret
  refine⟨by first|rfl|(simp [linkLess, *];done)|(simp [linkLess, *];omega)|(simp_all [linkLess,bq,bn];done)|(simp_all [linkLess,bq,bn];omega),?_⟩
  exact xT
theorem sMsgOk_c (w:World) (c0_0:Int) (c0_1:Int) (s0_2:Value) (l0_2:List Int) (h0_2:Ints 1 w s0_2 l0_2) :
  Calls Tryz.prog 216 #[.agg #[.int .i64 c0_0,.int .i64 c0_1,s0_2]] w (RetV w (.bool (msgOk (⟨c0_0,c0_1,l0_2⟩:DMsg)))):=by
 obtain⟨a2,cap2,rfl,hcap2,hm2,-⟩:=h0_2.one
 unfold maxLen at hm2
 go_enter Tryz.func216,Tryz.ntmps216
 go_wp2_with (first|(go_at_call 217;refine (l5Node_e _ _).mono ?_;rintro e9 w9 ⟨rfl,rfl⟩)|(go_at_call 325;refine (sRowOk_c _ _ l0_2 (h0_2.ext extT)).mono ?_;rintro e9 w9 ⟨rfl,hx9⟩))
 all_goals
  go_ret
  exact⟨by first|rfl|(simp [msgOk, *];done)|(simp_all [msgOk,bq,bn];done)|(simp_all [msgOk,bq,bn];omega),by exact extT⟩
theorem l22Clocks_c (w:World) (v:Value) (l:List Int) (h:Ints 1 w v l):Calls Tryz.prog 107 #[v] w (RetV w (.bool (clocksOk l))):=by
 obtain⟨a,cap,rfl,hcap,hm,ha⟩:=h.one
 have HA:=Lib.hid ha
 clear ha
 unfold maxLen at hm
 go_enter Tryz.func107,Tryz.ntmps107
 go_wp2
 go_loopw [3] (fun i wr=>∃ k:Nat,k≤l.length∧i=.int .i64 k∧Ext w wr∧Hid ((l.take k).all timeOk=true)) (fun i _=>l.length - (intOf i).toNat)
 case atStart=>exact⟨0,Nat.zero_le _,rfl,Ext.refl _,Lib.hid (by simp)⟩
 case round =>
  obtain⟨k,hk,rfl,he,hp⟩:=hrel
  by_cases hlt:k<l.length
  ·
   obtain⟨x,b1,o1,hx,rfl,_,c⟩:=HA.out k hlt
   have d0:=he.cell c
   have HX:=Lib.hid hx
   clear hx c
   cases hb:timeOk x
   ·
    go_wp2_with (first|(go_at_call 207;refine (sTimeOk_c _ _).mono ?_;rintro e9 w9 ⟨rfl,rfl⟩;rw [hb]))
    go_ret
    exact⟨by rw [show clocksOk l=false from by rw [clocksOk,all_no (p:=timeOk) (l:=l) HX.out hb];simp];try rfl,he⟩
   go_wp2_with (first|(go_at_call 207;refine (sTimeOk_c _ _).mono ?_;rintro e9 w9 ⟨rfl,rfl⟩;rw [hb]))
   go_roundw
   case rel=>exact⟨k+1,by omega,by go_num,he,Lib.hid (all_step HX.out hp.out hb)⟩
   case measure=>simp [intOf];omega
  obtain rfl:k=l.length:=by omega
  have hp':=hp.out
  rw [List.take_length] at hp'
  have HP:=Lib.hid hp'
  clear hp hp'
  go_wp2
  go_ret
  have hp':=HP.out
  exact⟨by rw [show clocksOk l=decide (l.length=6) from by simp [clocksOk,hp']];by_cases h6:l.length=6 <;> simp [h6,bq] <;> omega,he⟩
theorem rqB85 {p:Prop} (h:p:=by intro KQ hKQ;(repeat (first|go_big_quiet_skip|(go_big_quiet_want;first|(refine quiet_load _ _ _ ?_ rfl rfl (fun wq hq=>?_) ?_;rotate_left;(focus ((try have q0:=hq.cell x0);(try have q1:=hq.cell x1);(try have z0:=hq.cell e0);(try have z1:=hq.cell e1);(try have y1:=hq.cell J1);go_simp;first|done|rfl));(try simp only [redA,Act.put]);go_big_quiet_on)|(go_big_quiet_op;first|go_big_quiet_on|(refine⟨_,fun _ _=>rfl,?_⟩;go_big_quiet_on)|(apply Exists.intro;refine⟨fun wq hq=>?_,?_⟩;(focus (first|(go_at_call 217;first|exact call_same hq (by have c:=l5Node_e wq d.A;rw [p1] at c;exact c)|exact call_same hq (by have c:=l5Node_e wq d.B;rw [p2] at c;exact c))|(go_at_call 218;exact call_ext hq (by have c:=l5LinkLess_e wq e.A e.B d.A d.B;rw [show linkLess (⟨e.A,e.B⟩:DLink) ⟨d.A,d.B⟩=_ from hll] at c;exact c))));go_big_quiet_on)))));exact wpQuiet_nil hKQ):p:=h
theorem sNetOk_c (w:World) (s0_0:Value) (l0_0:List DMsg) (s0_1:Value) (l0_1:List DLink) (h0_0:Nest 2 w s0_0 (nestMsg l0_0)) (h0_1:Ints 2 w s0_1 (flLink l0_1)) :
  Calls Tryz.prog 112 #[.agg #[s0_0,s0_1]] w (RetV w (.bool (netOk (⟨l0_0,l0_1⟩:DNet)))):=by
 obtain⟨a0,cap0,rfl,hc0,hm0,ha0⟩:=Nest.letters h0_0
 obtain⟨a1,cap1,rfl,hc1,hm1,ha1⟩:=h0_1.recs (f:=DLink.ints) (fun _=>rfl) dC
 have HA:=Lib.hid ha0;have HB:=Lib.hid ha1
 clear ha0 ha1
 unfold maxLen at hm0 hm1
 obtain⟨W0,hW0⟩:∃ W0,W0=w.alloc (.cells #[.slice a0 l0_0.length cap0,.slice a1 l0_1.length cap1] 104):=⟨_,rfl⟩
 have hEw:Ext w W0:=by rw [hW0];exact (Ext.refl _).alloc _
 have KX0:Blk W0 w.heap.size 104 #[.slice a0 l0_0.length cap0,.slice a1 l0_1.length cap1]:=by rw [hW0];exact Blk.new _ _ _
 have I0:=KX0.cell 0;have I1:=KX0.cell 1
 simp only [List.getElem?_toArray,List.getElem?_cons_zero,List.getElem?_cons_succ] at I0 I1
 go_enter Tryz.func112,Tryz.ntmps112
 go_upto_region 1 with (fail)
 rw [← hW0]
 clear hW0 KX0
 by_cases h60:l0_0.length≤60
 rotate_left
 ·
  have h60b:decide (60<l0_0.length)=true:=by simp;omega
  go_wp2_with fail
  go_ret
  exact⟨by rw [show netOk (⟨l0_0,l0_1⟩:DNet)=false from by simp [netOk,h60]];try rfl,by exact extT⟩
 have h60b:decide (60<l0_0.length)=false:=by simp;omega
 by_cases h15:l0_1.length≤15
 rotate_left
 ·
  have h15b:decide (15<l0_1.length)=true:=by simp;omega
  go_wp2_with fail
  go_ret
  exact⟨by rw [show netOk (⟨l0_0,l0_1⟩:DNet)=false from by simp [netOk,h15]];try rfl,by exact extT⟩
 have h15b:decide (15<l0_1.length)=false:=by simp;omega
 go_wp2_with fail
 go_loopw [3] (fun i wr=>∃ k:Nat,k≤l0_0.length∧i=.int .i64 k∧Ext W0 wr∧Hid ((l0_0.take k).all msgOk=true)) (fun i _=>l0_0.length - (intOf i).toNat)
 case atStart=>exact⟨0,Nat.zero_le _,rfl,Ext.refl _,Lib.hid (by simp)⟩
 case round =>
  obtain⟨k,hk,rfl,he,hp⟩:=hrel
  have hEr:=hEw.trans he
  have J0:=he.cell I0;have J1:=he.cell I1
  have hLb:w.heap.size<wr.heap.size:=World.block_lt_of_cell? _ _ J1
  by_cases hlt:k<l0_0.length
  ·
   obtain⟨d,b1,o1,sa,sn,sc,hd,rfl,_,c0,c1,c2,hin0⟩:=HA.out k hlt
   have d0:=hEr.cell c0;have d1:=hEr.cell c1;have d2:=hEr.cell c2
   have hin:=hin0.ext hEr
   have HD:=Lib.hid hd
   clear c0 c1 c2 hd hin0
   cases hb:msgOk d
   ·
    go_wp2_with (first|(go_at_call 216;refine (sMsgOk_c _ d.From d.To _ d.Row (hin.ext extT)).mono ?_;rintro e9 w1 ⟨rfl,hx1⟩;rw [show msgOk (⟨d.From,d.To,d.Row⟩:DMsg)=_ from hb]))
    go_ret
    exact⟨by rw [show netOk (⟨l0_0,l0_1⟩:DNet)=false from by simp only [netOk];rw [all_no (p:=msgOk) (l:=l0_0) HD.out hb];simp];try rfl,by exact extT⟩
   go_wp2_with (first|(go_at_call 216;refine (sMsgOk_c _ d.From d.To _ d.Row (hin.ext extT)).mono ?_;rintro e9 w1 ⟨rfl,hx1⟩;rw [show msgOk (⟨d.From,d.To,d.Row⟩:DMsg)=_ from hb]))
   go_roundw
   case rel=>exact⟨k+1,by omega,by go_num,by exact extT,Lib.hid (all_step HD.out hp.out hb)⟩
   case measure=>simp [intOf];omega
  obtain rfl:k=l0_0.length:=by omega
  have hp':=hp.out
  rw [List.take_length] at hp'
  have HP:=Lib.hid hp'
  clear hp hp'
  go_wp2_with fail
  go_loopw [4] (fun i wr=>∃ k:Nat,k≤l0_1.length∧i=.int .i64 k∧Ext W0 wr∧Hid (∀ i,i<k→LinkAt l0_1 i)) (fun i _=>l0_1.length - (intOf i).toNat)
  case atStart=>exact⟨0,Nat.zero_le _,rfl,he,Lib.hid (fun i hi=>by omega)⟩
  case round =>
   clear he hEr J0 J1 hLb
   obtain⟨k,hk,rfl,he,HO⟩:=hrel
   have hEr:=hEw.trans he
   have J0:=he.cell I0;have J1:=he.cell I1
   have hLb:w.heap.size<wr.heap.size:=World.block_lt_of_cell? _ _ J1
   by_cases hlt:k<l0_1.length
   ·
    obtain⟨d,b1,o1,hd,rfl,hb1,c⟩:=HB.out k hlt
    have d0:=hEr.cell (c 0 _ dC rfl)
    have d1:=hEr.cell (c 1 _ dC rfl)
    simp only [Nat.add_zero] at d0
    have HD:=Lib.hid hd
    clear c hd
    cases p1:inb d.A 0 5
    ·
     go_upto_region 12 with (fail)
     obtain⟨W,hW⟩:∃ W,W=wr.alloc (.cells #[.int .i64 d.A,.int .i64 d.B] 258):=⟨_,rfl⟩
     have heR:Ext wr W:=by rw [hW];exact (Ext.refl wr).alloc _
     have KX:Blk W wr.heap.size 258 #[.int .i64 d.A,.int .i64 d.B]:=by rw [hW];exact Blk.new _ _ _
     rw [← hW]
     clear hW
     have x0:=KX.cell 0;have x1:=KX.cell 1
     simp only [List.getElem?_toArray,List.getElem?_cons_zero,List.getElem?_cons_succ] at x0 x1
     have J1:=heR.cell J1
     have hLw:w.heap.size<W.heap.size:=World.block_lt_of_cell? _ _ J1
     refine rx0 rqB85 fun w1 hx1=>?_
     go_wp2_with fail
     go_ret
     exact⟨by rw [show netOk (⟨l0_0,l0_1⟩:DNet)=false from by simp only [netOk];rw [cutsOk_false (fun hh=>by have:=(hh k hlt d HD.out).1;rw [p1] at this;cases this)];simp];try rfl,by exact extT⟩
    cases p2:inb d.B 0 5
    ·
     go_upto_region 12 with (fail)
     obtain⟨W,hW⟩:∃ W,W=wr.alloc (.cells #[.int .i64 d.A,.int .i64 d.B] 258):=⟨_,rfl⟩
     have heR:Ext wr W:=by rw [hW];exact (Ext.refl wr).alloc _
     have KX:Blk W wr.heap.size 258 #[.int .i64 d.A,.int .i64 d.B]:=by rw [hW];exact Blk.new _ _ _
     rw [← hW]
     clear hW
     have x0:=KX.cell 0;have x1:=KX.cell 1
     simp only [List.getElem?_toArray,List.getElem?_cons_zero,List.getElem?_cons_succ] at x0 x1
     have J1:=heR.cell J1
     have hLw:w.heap.size<W.heap.size:=World.block_lt_of_cell? _ _ J1
     refine rx0 rqB85 fun w1 hx1=>?_
     go_wp2_with fail
     go_ret
     exact⟨by rw [show netOk (⟨l0_0,l0_1⟩:DNet)=false from by simp only [netOk];rw [cutsOk_false (fun hh=>by have:=(hh k hlt d HD.out).2.1;rw [p2] at this;cases this)];simp];try rfl,by exact extT⟩
    by_cases hlt2:d.A<d.B
    rotate_left
    ·
     have hge:decide (d.A ≥ d.B)=true:=by simp;omega
     have hge2:decide (d.B≤d.A)=true:=by simp;omega
     have HLN:=Lib.hid hlt2
     clear hlt2
     skip
     go_upto_region 12 with (fail)
     obtain⟨W,hW⟩:∃ W,W=wr.alloc (.cells #[.int .i64 d.A,.int .i64 d.B] 258):=⟨_,rfl⟩
     have heR:Ext wr W:=by rw [hW];exact (Ext.refl wr).alloc _
     have KX:Blk W wr.heap.size 258 #[.int .i64 d.A,.int .i64 d.B]:=by rw [hW];exact Blk.new _ _ _
     rw [← hW]
     clear hW
     have x0:=KX.cell 0;have x1:=KX.cell 1
     simp only [List.getElem?_toArray,List.getElem?_cons_zero,List.getElem?_cons_succ] at x0 x1
     have J1:=heR.cell J1
     have hLw:w.heap.size<W.heap.size:=World.block_lt_of_cell? _ _ J1
     refine rx0 rqB85 fun w1 hx1=>?_
     go_wp2_with fail
     go_ret
     exact⟨by rw [show netOk (⟨l0_0,l0_1⟩:DNet)=false from by simp only [netOk];rw [cutsOk_false (fun hh=>by have:=(hh k hlt d HD.out).2.2.1;have hn:=HLN.out;omega)];simp];try rfl,by exact extT⟩
    have hge:decide (d.B≤d.A)=false:=by simp;omega
    have hgt:decide (d.B<d.A)=false:=by simp;omega
    have HLT:=Lib.hid hlt2
    clear hlt2
    by_cases hk0:k=0
    ·
     have hk1:decide (0<k)=false:=by simp;omega
     have HK:=Lib.hid hk0
     clear hk0
     go_upto_region 12 with (fail)
     obtain⟨W,hW⟩:∃ W,W=wr.alloc (.cells #[.int .i64 d.A,.int .i64 d.B] 258):=⟨_,rfl⟩
     have heR:Ext wr W:=by rw [hW];exact (Ext.refl wr).alloc _
     have KX:Blk W wr.heap.size 258 #[.int .i64 d.A,.int .i64 d.B]:=by rw [hW];exact Blk.new _ _ _
     rw [← hW]
     clear hW
     have x0:=KX.cell 0;have x1:=KX.cell 1
     simp only [List.getElem?_toArray,List.getElem?_cons_zero,List.getElem?_cons_succ] at x0 x1
     have J1:=heR.cell J1
     have hLw:w.heap.size<W.heap.size:=World.block_lt_of_cell? _ _ J1
     refine rx0 rqB85 fun w1 hx1=>?_
     go_wp2_with fail
     go_roundw
     case rel=>exact⟨k+1,by omega,by go_num,by exact extT,Lib.hid (LinkAt.next HD.out HO.out p1 p2 HLT.out (fun e' hh hl=>by have:=HK.out;omega))⟩
     case measure=>simp [intOf];omega
    obtain⟨e,b2,o2,hde,hbo,_,c⟩:=HB.out (k - 1) oM
    obtain⟨rfl,rfl⟩:b1=b2∧o1=o2:=by simpa using hbo
    have e0:=hEr.cell (c 0 _ dC rfl)
    have e1:=hEr.cell (c 1 _ dC rfl)
    simp only [Nat.add_zero] at e0
    have HE:=Lib.hid hde
    clear c hde hbo
    have hk1:decide (0<k)=true:=by simp;omega
    go_upto_region 12 with (fail)
    obtain⟨W,hW⟩:∃ W,W=wr.alloc (.cells #[.int .i64 d.A,.int .i64 d.B] 258):=⟨_,rfl⟩
    have heR:Ext wr W:=by rw [hW];exact (Ext.refl wr).alloc _
    have KX:Blk W wr.heap.size 258 #[.int .i64 d.A,.int .i64 d.B]:=by rw [hW];exact Blk.new _ _ _
    rw [← hW]
    clear hW
    have x0:=KX.cell 0;have x1:=KX.cell 1
    simp only [List.getElem?_toArray,List.getElem?_cons_zero,List.getElem?_cons_succ] at x0 x1
    have J1:=heR.cell J1
    have hLw:w.heap.size<W.heap.size:=World.block_lt_of_cell? _ _ J1
    have e0:=heR.cell e0;have e1:=heR.cell e1
    cases hll:linkLess e d
    ·
     refine rx0 rqB85 fun w1 hx1=>?_
     go_wp2_with fail
     go_ret
     exact⟨by rw [show netOk (⟨l0_0,l0_1⟩:DNet)=false from by simp only [netOk];rw [cutsOk_false (fun hh=>by have:=(hh k hlt d HD.out).2.2.2 e oM HE.out;rw [hll] at this;cases this)];simp];try rfl,by exact extT⟩
    refine rx0 rqB85 fun w1 hx1=>?_
    go_wp2_with fail
    go_roundw
    case rel=>exact⟨k+1,by omega,by go_num,by exact extT,Lib.hid (LinkAt.next HD.out HO.out p1 p2 HLT.out (fun e' hh hl=>by rw [HE.out] at hl;obtain rfl:=Option.some.inj hl;exact hll))⟩
    case measure=>simp [intOf];omega
   obtain rfl:k=l0_1.length:=by omega
   go_wp2_with fail
   go_ret
   exact⟨by rw [show netOk (⟨l0_0,l0_1⟩:DNet)=true from by simp only [netOk];rw [HP.out,cutsOk_true HO.out];simp [h60,h15]];try rfl,by exact extT⟩
end Go.Proofs.YtkpmbocbbgocbaaGreat
namespace Go.G8
open Go.RowKit
open Go.Proofs.YtkpmbocbbgocbaaGreat
def stateZ:DState:=⟨0,0,[],[],⟨0,0,0⟩⟩
def logZ (t:DTwo):DLogNode:=⟨t,headZ,headZ,false,⟨0,0,[]⟩,[],0,[]⟩
def upAt (w:DWorld) (k:Nat):Bool:=w.Up[k]?.getD false
noncomputable def logDown (n:DLogNode):Bool:=twoOk n.Two && eqB n (logZ n.Two)
noncomputable def logFits (n:DLogNode) (up:Bool):Bool:=if up then logOk n else logDown n
noncomputable def storeDown (s:DStore):Bool:=diskOk s.Disk && (eqB s.State stateZ && (decide (s.Num=0) && (decide (s.Last=0) && decide (s.Busy=0))))
noncomputable def storeFits (s:DStore) (up:Bool):Bool:=if up then storeOk s else storeDown s
noncomputable def schedFits (s:DSched) (id:Int) (up:Bool):Bool:=schedOkS s && (decide (s.Id=id) && (up || eqB s (newSched id)))
noncomputable def schedsFit (w:DWorld):Bool:=schedFits w.Left 2 (upAt w 2) && schedFits w.Right 3 (upAt w 3)
def clientsFit (w:DWorld):Bool:=upAt w 4 && (upAt w 5 && (clientOk w.Ann && (decide (w.Ann.Id=4) && (clientOk w.Bob && decide (w.Bob.Id=5)))))
noncomputable def worldOk (w:DWorld):Bool:=clocksOk w.Clocks && (decide (w.Up.length=6) && (netOk w.Net && (clientsFit w && (schedsFit w && (logFits w.Log (upAt w 0) && storeFits w.Store (upAt w 1))))))
end Go.G8
namespace Go.Proofs.YtkpmbocbbgocbaaGreat
open Go.RowKit Go.G8
theorem RdLog.leaves {w:World} {p:List Value} {n:DLogNode} (h:RdLog w (.agg p.toArray) n):∃ s0 s1 s2 s3 s7 s11 s15 s16 s18:Value,p=[s0,s1,s2,s3,Value.int .i64 n.Head.Num,Value.int .i64 n.Head.Base,Value.int .i64 n.Head.Time,s7,Value.int .i64 n.Next.Num,Value.int .i64 n.Next.Base,Value.int .i64 n.Next.Time,s11,Value.bool n.More,Value.int .i64 n.Book.Base,Value.int .i64 n.Book.Time,s15,s16,Value.int .i64 n.Durable,s18]∧Nest 0 w s0 (nestInt64S n.Two.A.Kept)∧Nest 1 w s1 (nestWrite n.Two.A.Wait)∧Nest 0 w s2 (nestInt64S n.Two.B.Kept)∧Nest 1 w s3 (nestWrite n.Two.B.Wait)∧Ints 3 w s7 (flMark n.Head.Seen)∧Ints 3 w s11 (flMark n.Next.Seen)∧Ints 9 w s15 (flEntry n.Book.Entries)∧Ints 3 w s16 (flMark n.Seen)∧Ints 4 w s18 (flAck n.Owe):=by
 obtain⟨p0,p1,p2,p4,t5,t7,e,l0,l1,l2,l4,g0,g1,g2,g4,g5,g7⟩:=h
 have e:=agg_inj e
 obtain⟨a0,a1,e0,-,-,d0,d1⟩:=g0
 obtain⟨s0,s1,e00,n0,n1⟩:=d0
 obtain⟨s2,s3,e01,n2,n3⟩:=d1
 obtain⟨s7,e1,n7⟩:=g1
 obtain⟨s11,e2,n11⟩:=g2
 obtain⟨s15,e4,n15⟩:=g4
 have e00:=agg_inj (M:=[s0,s1]) e00
 have e01:=agg_inj (M:=[s2,s3]) e01
 have e0:=agg_inj e0;have e1:=agg_inj e1;have e2:=agg_inj e2;have e4:=agg_inj e4
 subst e00 e01
 subst e0 e1 e2 e4
 subst e
 exact⟨s0,s1,s2,s3,s7,s11,s15,t5,t7,by simp only [List.cons_append,List.nil_append,List.append_nil],n0,n1,n2,n3,n7,n11,n15,g5,g7⟩
theorem RdLog.list {w:World} {v:Value} {n:DLogNode} (h:RdLog w v n):∃ p:List Value,v=.agg p.toArray:=by
 obtain⟨p0,p1,p2,p4,t5,t7,e,-⟩:=h
 exact⟨_,e⟩
theorem sLogOk_k {w:World} {v:Value} {n:DLogNode} (h:RdLog w v n):Calls Tryz.prog 208 #[v] w (RetV w (.bool (logOk n))):=by
 obtain⟨p,rfl⟩:=h.list
 obtain⟨s0,s1,s2,s3,s7,s11,s15,s16,s18,rfl,h0,h1,h2,h3,h7,h11,h15,h16,h18⟩:=h.leaves
 exact sLogOk_c w _ _ _ _ _ _ _ _ n.Head.Num n.Head.Base n.Head.Time _ _ n.Next.Num n.Next.Base n.Next.Time _ _ n.More n.Book.Base n.Book.Time _ _ _ _ n.Durable _ _ h0 h1 h2 h3 h7 h11 h15 h16 h18
theorem RdClient.leaves {w:World} {v:Value} {c:DClient} (h:RdClient w v c):∃ s1 s2:Value,v=.agg #[.int .i64 c.Id,s1,s2,.int .i64 c.Last]∧Ints 7 w s1 (flWant c.Todo)∧Ints 4 w s2 (flGot c.Gots):=by
 obtain⟨s1,s2,e,h1,h2⟩:=h
 exact⟨s1,s2,by rw [e];rfl,h1,h2⟩
theorem clientOk_k {w:World} {v:Value} {c:DClient} (h:RdClient w v c):Calls Tryz.prog 171 #[v] w (RetV w (.bool (clientOk c))):=by
 obtain⟨s1,s2,rfl,h1,h2⟩:=h.leaves
 exact clientOk_c w c.Id _ _ _ _ c.Last h1 h2
theorem sClientOk_k {w:World} {v:Value} {c:DClient} (h:RdClient w v c):Calls Tryz.prog 111 #[v] w (RetV w (.bool (clientOk c))):=by
 obtain⟨s1,s2,rfl,h1,h2⟩:=h.leaves
 exact sClientOk_c w c.Id _ _ _ _ c.Last h1 h2
theorem sNetOk_k {w:World} {v:Value} {c:DNet} (h:RdNet w v c):Calls Tryz.prog 112 #[v] w (RetV w (.bool (netOk c))):=by
 obtain⟨s1,s2,rfl,h1,h2⟩:=h
 exact sNetOk_c w _ _ _ _ h1 h2
theorem up_cells {w:World} {v:Value} {d:DWorld} (h:RdBoolS w v d.Up) (hu:d.Up.length=6):∃ b off cap,v=.slice (some ⟨b,off,none⟩) 6 cap∧6≤cap∧cap≤maxLen∧b<w.heap.size∧∀ k,k<6→w.cell? ⟨b,off+k,none⟩=some (.bool (upAt d k)):=by
 obtain⟨a,cap,rfl,hc,hm,ha⟩:=Sl.bools h
 rw [hu] at hc ha ⊢
 obtain⟨x,b,off,-,rfl,hb,-⟩:=ha 0 dC
 refine⟨b,off,cap,rfl,hc,hm,hb,fun k hk=>?_⟩
 obtain⟨x,b',off',hx,e,-,hcell⟩:=ha k hk
 cases e
 rw [hcell]
 unfold upAt
 rw [hx];rfl
end Go.Proofs.YtkpmbocbbgocbaaGreat
