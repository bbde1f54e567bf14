/- BkA So Ms So2 EqMark EqH BkH BkK BkT BkB BkI. -/
import Derived.Test.YtkpmbocbbgocbaaGreatPB4
set_option linter.unusedSimpArgs false
set_option linter.unusedVariables false
set_option maxHeartbeats 16000000
set_option maxRecDepth 100000
namespace Go.Proofs.YtkpmbocbbgocbaaGreat
open Go.RowKit Go.G8
theorem TM(w:World)(Ay:Int)(Ce:Int)(CV:Value)(Be:List Bj)(zX:Aw 9 w CV (wM Be)):Calls Tryz.prog 281 #[.agg #[.int .i64 Ay,.int .i64 Ce,CV]] w (Fz w (.bool (AH (⟨Ay,Ce,Be⟩:iY)))):=by
 obtain⟨a2,cap2,rfl,hcap2,hm2,ha2⟩:=zX.recs (f:=Bj.ints) (fun _=>rfl) dC
 have HA:=Lib.hid ha2
 clear ha2
 unfold maxLen at hm2
 obtain⟨W0,hW0⟩:∃W0,W0=w.alloc (.cells #[.int .i64 Ay,.int .i64 Ce,.slice a2 Be.length cap2] 78):=⟨_,rfl⟩
 have hEw:Ext w W0:=by rw[hW0];exact(Ext.refl _).alloc _
 have KX:Blk W0 w.heap.size 78 #[.int .i64 Ay,.int .i64 Ce,.slice a2 Be.length cap2]:=by rw[hW0];exact Blk.new _ _ _
 have hLX:=KX.lt
 have I0:=KX.cell 0;have I1:=KX.cell 1;have I2:=KX.cell 2
 simp only[List.getElem?_toArray,List.getElem?_cons_zero,List.getElem?_cons_succ] at I0 I1 I2
 go_enter Tryz.func281,Tryz.ntmps281
 go_upto_region 1 with(fail)
 rw[<-hW0]
 clear hW0 KX
 cases p1:inb Ay 0 2000
 .
  go_wp2_with (first|(go_at_call 176;refine(Og _ _ _ _).mono ?_;rintro e9 w9 ⟨rfl,rfl⟩;rw[p1])|(go_at_call 177;refine(AT _ _).mono ?_;rintro e9 w9 ⟨rfl,rfl⟩;rw[p2])|(go_at_call 359;refine(GP _ _ Be (zX.ext Ag)).mono ?_;rintro e9 w1 ⟨rfl,hx1⟩;rw[p5];have J0:=hx1.cell I0;have J1:=hx1.cell I1;have J2:=hx1.cell I2;have hLb:w.heap.size<w1.heap.size:=World.block_lt_of_cell? _ _ J0))
  go_ret
  exact⟨by rw[show AH (⟨Ay,Ce,Be⟩:iY)=false from by simp[AH,p1]];try rfl,by exact Ag⟩
 cases p2:wZ Ce
 .
  go_wp2_with (first|(go_at_call 176;refine(Og _ _ _ _).mono ?_;rintro e9 w9 ⟨rfl,rfl⟩;rw[p1])|(go_at_call 177;refine(AT _ _).mono ?_;rintro e9 w9 ⟨rfl,rfl⟩;rw[p2])|(go_at_call 359;refine(GP _ _ Be (zX.ext Ag)).mono ?_;rintro e9 w1 ⟨rfl,hx1⟩;rw[p5];have J0:=hx1.cell I0;have J1:=hx1.cell I1;have J2:=hx1.cell I2;have hLb:w.heap.size<w1.heap.size:=World.block_lt_of_cell? _ _ J0))
  go_ret
  exact⟨by rw[show AH (⟨Ay,Ce,Be⟩:iY)=false from by simp[AH,p2]];try rfl,by exact Ag⟩
 obtain⟨b3,hb3⟩:∃b,b=(Ay == 0):=⟨_,rfl⟩
 obtain⟨b4,hb4⟩:∃b,b=(Ce != 0):=⟨_,rfl⟩
 by_cases hz:Ay=0/\Ce≠0
 .
  have hb3:(Ay == 0)=true:=by simpa using hz.1
  have hb4:(Ce != 0)=true:=by simpa using hz.2
  have HZ:=Lib.hid hz
  clear hz
  go_wp2_with (first|(go_at_call 176;refine(Og _ _ _ _).mono ?_;rintro e9 w9 ⟨rfl,rfl⟩;rw[p1])|(go_at_call 177;refine(AT _ _).mono ?_;rintro e9 w9 ⟨rfl,rfl⟩;rw[p2])|(go_at_call 359;refine(GP _ _ Be (zX.ext Ag)).mono ?_;rintro e9 w1 ⟨rfl,hx1⟩;rw[p5];have J0:=hx1.cell I0;have J1:=hx1.cell I1;have J2:=hx1.cell I2;have hLb:w.heap.size<w1.heap.size:=World.block_lt_of_cell? _ _ J0))
  go_ret
  exact⟨by rw[show AH (⟨Ay,Ce,Be⟩:iY)=false from by simp[AH,HZ.out.1,HZ.out.2]];try rfl,by exact Ag⟩
 have hbz:b3=true->b4=false:=by intro h;rw[hb3] at h;rw[hb4];simp at h ⊢;exact Classical.byContradiction fun h'=>hz ⟨h,h'⟩
 have HZ:=Lib.hid hz
 have HB3:=Lib.hid hb3.symm;have HB4:=Lib.hid hb4.symm
 clear hz hb3 hb4
 by_cases h20:Be.length<=20
 rotate_left
 .
  have h20b:decide (20<Be.length)=true:=by simp;omega
  have q3:=HB3.out;have q4:=HB4.out
  cases b3
  .
   go_wp2_with (first|(go_at_call 176;refine(Og _ _ _ _).mono ?_;rintro e9 w9 ⟨rfl,rfl⟩;rw[p1])|(go_at_call 177;refine(AT _ _).mono ?_;rintro e9 w9 ⟨rfl,rfl⟩;rw[p2])|(go_at_call 359;refine(GP _ _ Be (zX.ext Ag)).mono ?_;rintro e9 w1 ⟨rfl,hx1⟩;rw[p5];have J0:=hx1.cell I0;have J1:=hx1.cell I1;have J2:=hx1.cell I2;have hLb:w.heap.size<w1.heap.size:=World.block_lt_of_cell? _ _ J0))
   go_ret
   exact⟨by rw[show AH (⟨Ay,Ce,Be⟩:iY)=false from by simp[AH,h20]];try rfl,by exact Ag⟩
  have q5:=hbz rfl
  rw[q5] at q4
  go_wp2_with (first|(go_at_call 176;refine(Og _ _ _ _).mono ?_;rintro e9 w9 ⟨rfl,rfl⟩;rw[p1])|(go_at_call 177;refine(AT _ _).mono ?_;rintro e9 w9 ⟨rfl,rfl⟩;rw[p2])|(go_at_call 359;refine(GP _ _ Be (zX.ext Ag)).mono ?_;rintro e9 w1 ⟨rfl,hx1⟩;rw[p5];have J0:=hx1.cell I0;have J1:=hx1.cell I1;have J2:=hx1.cell I2;have hLb:w.heap.size<w1.heap.size:=World.block_lt_of_cell? _ _ J0))
  go_ret
  exact⟨by rw[show AH (⟨Ay,Ce,Be⟩:iY)=false from by simp[AH,h20]];try rfl,by exact Ag⟩
 have h20b:decide (20<Be.length)=false:=by simp;omega
 cases p5:IT Be
 .
  have q3:=HB3.out;have q4:=HB4.out
  cases b3
  .
   go_wp2_with (first|(go_at_call 176;refine(Og _ _ _ _).mono ?_;rintro e9 w9 ⟨rfl,rfl⟩;rw[p1])|(go_at_call 177;refine(AT _ _).mono ?_;rintro e9 w9 ⟨rfl,rfl⟩;rw[p2])|(go_at_call 359;refine(GP _ _ Be (zX.ext Ag)).mono ?_;rintro e9 w1 ⟨rfl,hx1⟩;rw[p5];have J0:=hx1.cell I0;have J1:=hx1.cell I1;have J2:=hx1.cell I2;have hLb:w.heap.size<w1.heap.size:=World.block_lt_of_cell? _ _ J0))
   go_ret
   exact⟨by rw[show AH (⟨Ay,Ce,Be⟩:iY)=false from by simp[AH,p5]];try rfl,by exact Ag⟩
  have q5:=hbz rfl
  rw[q5] at q4
  go_wp2_with (first|(go_at_call 176;refine(Og _ _ _ _).mono ?_;rintro e9 w9 ⟨rfl,rfl⟩;rw[p1])|(go_at_call 177;refine(AT _ _).mono ?_;rintro e9 w9 ⟨rfl,rfl⟩;rw[p2])|(go_at_call 359;refine(GP _ _ Be (zX.ext Ag)).mono ?_;rintro e9 w1 ⟨rfl,hx1⟩;rw[p5];have J0:=hx1.cell I0;have J1:=hx1.cell I1;have J2:=hx1.cell I2;have hLb:w.heap.size<w1.heap.size:=World.block_lt_of_cell? _ _ J0))
  go_ret
  exact⟨by rw[show AH (⟨Ay,Ce,Be⟩:iY)=false from by simp[AH,p5]];try rfl,by exact Ag⟩
 have hpos:AH (⟨Ay,Ce,Be⟩:iY)=QA (⟨Ay,Ce,Be⟩:iY):=by
  simp only[AH];rw[p1,p2,p5,show decide (Be.length<=20)=true by simpa using h20]
  rw[show(decide (Ay=0)&&decide (Ce≠0))=false by have:=HZ.out;simp;intro h;exact Classical.byContradiction fun h'=>this ⟨h,h'⟩]
  rfl
 have HPOS:=Lib.hid hpos
 clear hpos
 go_cut [22] (fun cx0 wx=>cx0=.bool false/\Ext W0 wx)
 case first =>
  have q3:=HB3.out;have q4:=HB4.out
  cases b3
  .
   go_wp2_with (first|(go_at_call 176;refine(Og _ _ _ _).mono ?_;rintro e9 w9 ⟨rfl,rfl⟩;rw[p1])|(go_at_call 177;refine(AT _ _).mono ?_;rintro e9 w9 ⟨rfl,rfl⟩;rw[p2])|(go_at_call 359;refine(GP _ _ Be (zX.ext Ag)).mono ?_;rintro e9 w1 ⟨rfl,hx1⟩;rw[p5];have J0:=hx1.cell I0;have J1:=hx1.cell I1;have J2:=hx1.cell I2;have hLb:w.heap.size<w1.heap.size:=World.block_lt_of_cell? _ _ J0))
   go_meet
   case rel=>exact⟨by first|rfl|(simp;done)|(simp;omega),by exact Ag⟩
  have q5:=hbz rfl
  rw[q5] at q4
  go_wp2_with (first|(go_at_call 176;refine(Og _ _ _ _).mono ?_;rintro e9 w9 ⟨rfl,rfl⟩;rw[p1])|(go_at_call 177;refine(AT _ _).mono ?_;rintro e9 w9 ⟨rfl,rfl⟩;rw[p2])|(go_at_call 359;refine(GP _ _ Be (zX.ext Ag)).mono ?_;rintro e9 w1 ⟨rfl,hx1⟩;rw[p5];have J0:=hx1.cell I0;have J1:=hx1.cell I1;have J2:=hx1.cell I2;have hLb:w.heap.size<w1.heap.size:=World.block_lt_of_cell? _ _ J0))
  go_meet
  case rel=>exact⟨by first|rfl|(simp;done)|(simp;omega),by exact Ag⟩
 revert wc;intro w0 hcut
 obtain⟨rfl,hx0⟩:=hcut
 have hEw:=hEw.trans hx0
 have I0:=hx0.cell I0;have I1:=hx0.cell I1;have I2:=hx0.cell I2
 have hLb0:w.heap.size<w0.heap.size:=World.block_lt_of_cell? _ _ I0
 go_upto_region 5 with(first|(go_at_call 176;refine(Og _ _ _ _).mono ?_;rintro e9 w9 ⟨rfl,rfl⟩;rw[p1])|(go_at_call 177;refine(AT _ _).mono ?_;rintro e9 w9 ⟨rfl,rfl⟩;rw[p2])|(go_at_call 359;refine(GP _ _ Be (zX.ext Ag)).mono ?_;rintro e9 w1 ⟨rfl,hx1⟩;rw[p5];have J0:=hx1.cell I0;have J1:=hx1.cell I1;have J2:=hx1.cell I2;have hLb:w.heap.size<w1.heap.size:=World.block_lt_of_cell? _ _ J0))
 skip
 obtain⟨wz,hwz⟩:∃wz,wz=w1:=⟨_,rfl⟩
 rw[<-hwz]
 have hEz:Ext W0 wz:=by rw[hwz];exact hx0.trans hx1
 have hEwz:Ext w wz:=by rw[hwz];exact hEw.trans hx1
 have J0:wz.cell? ⟨w.heap.size,0,none⟩=some (.int .i64 Ay):=by rw[hwz];exact J0
 have J1:wz.cell? ⟨w.heap.size,1,none⟩=some (.int .i64 Ce):=by rw[hwz];exact J1
 have J2:wz.cell? ⟨w.heap.size,2,none⟩=some (.slice a2 Be.length cap2):=by rw[hwz];exact J2
 clear hwz
 by_cases hl0:Be.length=0
 .
  have e1:QA (⟨Ay,Ce,Be⟩:iY)=true:=by rw[List.eq_nil_of_length_eq_zero hl0];rfl
  have l0b:((Be.length:Int) == 0)=true:=by simpa using hl0
  have l0c:decide (Be.length=0)=true:=by simpa using hl0
  have HE:=Lib.hid e1
  clear e1 hl0
  go_wp2_with fail
  go_quiet (fail)
  go_wp2_with fail
  go_ret
  exact⟨by rw[HPOS.out,HE.out];try rfl,by exact Ag⟩
 obtain⟨d,b1,o1,hd,rfl,hb1,c⟩:=HA.out 0 oM
 have d0:=hEwz.cell (c 0 _ dC rfl)
 have d1:=hEwz.cell (c 1 _ dC rfl)
 simp only[Nat.zero_mul,Nat.add_zero] at d0 d1
 have e1:QA (⟨Ay,Ce,Be⟩:iY)=(decide (d.Index=Ay+1)&&decide (Ce<=d.Time)):=by
  cases Be with
  | nil=>simp at hd
  | cons x l=>simp at hd;subst hd;rfl
 have hwr:IntKind.i64.wrap (Ay+1)=Ay+1:=by have:=AO.1 p1;rw[IntKind.wrap_i64] <;> omega
 have hpl:0<Be.length:=by omega
 have l0b:((Be.length:Int) == 0)=false:=by simpa using hl0
 have l0c:decide (Be.length=0)=false:=by simpa using hl0
 have HE:=Lib.hid e1
 clear e1 hl0 c hd
 by_cases hi:d.Index=Ay+1
 .
  have hi1:(d.Index == Ay+1)=true:=by simpa using hi
  have hi2:decide (d.Index=Ay+1)=true:=by simpa using hi
  have HI:=Lib.hid hi2
  clear hi
  go_wp2_with fail
  go_quiet (fail)
  go_wp2_with fail
  go_ret
  exact⟨by rw[HPOS.out,HE.out,HI.out];first|rfl|(simp;done),by exact Ag⟩
 have hi1:(d.Index == Ay+1)=false:=by simpa using hi
 have hi2:decide (d.Index=Ay+1)=false:=by simpa using hi
 have HI:=Lib.hid hi2
 clear hi
 go_wp2_with fail
 go_quiet (fail)
 go_wp2_with fail
 go_ret
 exact⟨by rw[HPOS.out,HE.out,HI.out];first|rfl|(simp;done),by exact Ag⟩
theorem cG3{B:Nat}{e:TypeId}{n:Nat}{w:World}{v:Value}{xs ys zs:List Int}(h:Own B e n w v (xs.map (.int .i64)++ys.map (.int .i64)++zs.map (.int .i64))):Ba B e n w v (xs++ys++zs):=by
 rw[<-List.map_append,<-List.map_append] at h;exact h
theorem VM{B:Nat}{e:TypeId}{n:Nat}{w:World}{v:Value}{xs ys:List Int}(h:Own B e n w v (xs.map (.int .i64)++ys.map (.int .i64))):Ba B e n w v (xs++ys):=by
 rw[<-List.map_append] at h;exact h
theorem Sl.oneAtM(w:World)(cur:Array Value)(t:TypeId)(n b:Nat)(hb:b=w.heap.size)(hn:cur.size=n):Sl n (w.alloc (.cells cur t)) (.slice (some ⟨b,0,none⟩) 1 1) cur.toList:=by
 subst hb;exact Sl.one w cur t n hn
theorem Ba.lit0m(w:World)(e:TypeId)(n:Nat):Ba w.heap.size e n (w.alloc (.cells #[] e)) (.slice (some ⟨w.heap.size,0,none⟩) 0 0) [] :=
 Own.of_blk (cap:=0) (Blk.new w e #[]) (Nat.le_refl _) (by simp) (by simp) (Nat.le_refl _) dC (fun j hj=>by rw[Nat.zero_mul] at hj;omega)
theorem MD(l:List Bz)(d:Bz):Xh (l++[d])=Xh l++[d.Client,d.Seq,d.Index]:=by simp[Xh,Bz.ints,List.flatMap_append]
theorem aK7:(Tryz.prog.info? 290).map (fun i=>(i.zero,i.size,i.bytes))=some (some (.agg #[.int .i64 0,.int .i64 0,.int .i64 0]),3,24):=by kernel_rfl
theorem TN(w:World)(v:Value)(l:List Bz)(h:Aw 3 w v (Xh l))(e0:l.length<=1000000):Calls Tryz.prog 378 #[v] w (Ret w fun r0 w'=>Ba w.heap.size 290 3 w' r0 (Xh l)):=by
 obtain⟨a0,n0,k0,rfl⟩:=h.shape
 obtain⟨i0,hi,hz0,hz1,hz2⟩:=info_parts aK7
 go_enter Tryz.func378,Tryz.ntmps378
 go_wp2_with (first|(at_builtin;refine SN rfl (.tmp 3) (.tmp 4) 73 rfl 290 i0 _ 3 24 Tryz.underlying73 hi hz0 hz1 hz2 rfl dC w.heap.size (by simp) rfl (.slice a0 n0 k0) ((Xh l).map (.int .i64)) rfl h (ints_oneCell _ _) 1000000 (by have:=CY l;simp;omega) (by unfold maxLen;omega) oM ?_;rotate_right;intro t5 w1 g5 hx1;obtain⟨ta5,tn5,tc5,rfl⟩:=g5.sl.shape))
 go_ret
 exact⟨_,rfl,hx1,g5⟩
theorem VN(w:World)(v:Value)(l:List Bz)(h:Aw 3 w v (Xh l))(e0:l.length<=1000000):Calls Tryz.prog 360 #[v] w (Ret w fun r0 w'=>Ba w.heap.size 290 3 w' r0 (Xh l)):=by
 obtain⟨a0,n0,k0,rfl⟩:=h.shape
 obtain⟨i0,hi,hz0,hz1,hz2⟩:=info_parts aK7
 go_enter Tryz.func360,Tryz.ntmps360
 go_wp2_with (first|(at_builtin;refine SN rfl (.tmp 3) (.tmp 4) 73 rfl 290 i0 _ 3 24 Tryz.underlying73 hi hz0 hz1 hz2 rfl dC w.heap.size (by simp) rfl (.slice a0 n0 k0) ((Xh l).map (.int .i64)) rfl h (ints_oneCell _ _) 1000000 (by have:=CY l;simp;omega) (by unfold maxLen;omega) oM ?_;rotate_right;intro t5 w1 g5 hx1;obtain⟨ta5,tn5,tc5,rfl⟩:=g5.sl.shape))
 go_ret
 exact⟨_,rfl,hx1,g5⟩
theorem bU5(l:List Bz)(x:Bz):(wS l x).length<=l.length+1:=by
 induction l with
 | nil=>simp[wS]
 | cons y l ih=>rw[wS];split <;> (try split) <;> simp <;> omega
theorem cK6{p:Prop}(h:p:=by intro KQ hKQ;(repeat (first|go_big_quiet_skip|(go_big_quiet_want;first|(refine Hn _ _ _ ?_ rfl rfl (fun wq hq=>?_) ?_;rotate_left;(focus((try have y0:=hq.cell x0);(try have y1:=hq.cell x1);(try have y2:=hq.cell x2);(try have y3:=hq.cell x3);(try have y4:=hq.cell x4);(try have y5:=hq.cell x5);(try have y6:=hq.cell x6);(try have y7:=hq.cell x7);(try have y8:=hq.cell x8);go_simp;first|done|rfl));(try simp only[Ak,Act.put]);go_big_quiet_on)|(go_big_quiet_op;first|go_big_quiet_on|(refine⟨_,fun _ _=>rfl,?_⟩;go_big_quiet_on)|(apply Exists.intro;refine⟨fun wq hq=>?_,?_⟩;(focus(first|exact Tu hq (by have c:=NF wq e.Index e.Time e.Client e.Seq e.Op.Kind e.Op.A e.Op.B e.Op.C e.Op.D;rw[show wN (⟨e.Index,e.Time,e.Client,e.Seq,⟨e.Op.Kind,e.Op.A,e.Op.B,e.Op.C,e.Op.D⟩⟩:Bj)=false from hp] at c;exact c)|exact Tu hq (by have c:=aG2 wq _ s e.Client e.Seq (h.ext (hE1.trans hq)) HS.out p3 p4;rw[hf] at c;exact c)|exact Tu hq (TI wq _ s (h.ext (hE1.trans hq)) HS.out)));go_big_quiet_on)))));exact wpQuiet_nil hKQ):p:=h
theorem aX4{p:Prop}(h:p:=by intro KQ hKQ;(repeat (first|go_big_quiet_skip|(go_big_quiet_want;first|(refine Hn _ _ _ ?_ rfl rfl (fun wq hq=>?_) ?_;rotate_left;(focus((try have y0:=hq.cell x0);(try have y1:=hq.cell x1);(try have y2:=hq.cell x2);(try have y3:=hq.cell x3);(try have y4:=hq.cell x4);(try have y5:=hq.cell x5);(try have y6:=hq.cell x6);(try have y7:=hq.cell x7);(try have y8:=hq.cell x8);go_simp;first|done|rfl));(try simp only[Ak,Act.put]);go_big_quiet_on)|(go_big_quiet_op;first|go_big_quiet_on|(refine⟨_,fun _ _=>rfl,?_⟩;go_big_quiet_on)|(apply Exists.intro;refine⟨fun wq hq=>?_,?_⟩;(focus(first|exact Tu hq (by have c:=NF wq e.Index e.Time e.Client e.Seq e.Op.Kind e.Op.A e.Op.B e.Op.C e.Op.D;rw[show wN (⟨e.Index,e.Time,e.Client,e.Seq,⟨e.Op.Kind,e.Op.A,e.Op.B,e.Op.C,e.Op.D⟩⟩:Bj)=true from hp] at c;exact c)|exact Tu hq (by have c:=aG2 wq _ s e.Client e.Seq (h.ext (hE1.trans hq)) HS.out p3 p4;rw[hf] at c;exact c)|exact Tu hq (TI wq _ s (h.ext (hE1.trans hq)) HS.out)));go_big_quiet_on)))));exact wpQuiet_nil hKQ):p:=h
theorem bU6(w:World)(v:Value)(s:List Bz)(e:Bj)(h:Aw 3 w v (Xh s))(hs:GT s=true):Calls Tryz.prog 379 #[v,.agg #[.int .i64 e.Index,.int .i64 e.Time,.int .i64 e.Client,.int .i64 e.Seq,.int .i64 e.Op.Kind,.int .i64 e.Op.A,.int .i64 e.Op.B,.int .i64 e.Op.C,.int .i64 e.Op.D]] w (Ret w fun r w'=>∃u,r=.tuple #[u,.bool (zZ s e).isSome]/\Ba w.heap.size 290 3 w' u (Xh ((zZ s e).getD s))):=by
 have HH:=h
 have hlen:=(IL.1 hs).len
 obtain⟨a,cap,rfl,hcap,hm,ha⟩:=h.recs (f:=Bz.ints) (fun _=>rfl) dC
 have HA:=Lib.hid ha;have HS:=Lib.hid hs;have HLEN:=Lib.hid hlen
 clear ha hs
 unfold maxLen at hm
 obtain⟨i0,hi,hz0,hz1,hz2⟩:=info_parts aK7
 obtain⟨W0,hW0⟩:∃W0,W0=w.alloc (.cells #[.int .i64 e.Index,.int .i64 e.Time,.int .i64 e.Client,.int .i64 e.Seq,.int .i64 e.Op.Kind,.int .i64 e.Op.A,.int .i64 e.Op.B,.int .i64 e.Op.C,.int .i64 e.Op.D] 281):=⟨_,rfl⟩
 have hE0:Ext w W0:=by rw[hW0];exact(Ext.refl _).alloc _
 have K0:Blk W0 w.heap.size 281 #[.int .i64 e.Index,.int .i64 e.Time,.int .i64 e.Client,.int .i64 e.Seq,.int .i64 e.Op.Kind,.int .i64 e.Op.A,.int .i64 e.Op.B,.int .i64 e.Op.C,.int .i64 e.Op.D]:=by rw[hW0];exact Blk.new _ _ _
 go_enter Tryz.func379,Tryz.ntmps379
 go_wp2_with fail
 rw[<-hW0]
 clear hW0
 refine(NL _ _ s (HH.ext hE0)).mono ?_
 rintro e1 w1⟨rfl,hx1⟩
 rw[HS.out]
 have hE1:=hE0.trans hx1
 have K1:=K0.ext hx1
 have x0:w1.cell? ⟨w.heap.size,0,none⟩=some (.int .i64 e.Index):=K1.cell 0
 have x1:w1.cell? ⟨w.heap.size,1,none⟩=some (.int .i64 e.Time):=K1.cell 1
 have x2:w1.cell? ⟨w.heap.size,2,none⟩=some (.int .i64 e.Client):=K1.cell 2
 have x3:w1.cell? ⟨w.heap.size,3,none⟩=some (.int .i64 e.Seq):=K1.cell 3
 have x4:w1.cell? ⟨w.heap.size,4,none⟩=some (.int .i64 e.Op.Kind):=K1.cell 4
 have x5:w1.cell? ⟨w.heap.size,5,none⟩=some (.int .i64 e.Op.A):=K1.cell 5
 have x6:w1.cell? ⟨w.heap.size,6,none⟩=some (.int .i64 e.Op.B):=K1.cell 6
 have x7:w1.cell? ⟨w.heap.size,7,none⟩=some (.int .i64 e.Op.C):=K1.cell 7
 have x8:w1.cell? ⟨w.heap.size,8,none⟩=some (.int .i64 e.Op.D):=K1.cell 8
 clear K0
 cases hp:wN e
 .
  have hn:zZ s e=none:=by simp[zZ,hp]
  have HN:=Lib.hid hn
  clear hn
  go_upto_region 3 with(fail)
  refine rx0 cK6 fun w2 hx2=>?_
  go_wp2_with fail
  refine(TN _ _ s (h.ext (hE1.trans hx2)) oM).mono ?_
  rintro e9 w3⟨t9,rfl,hx3,g3⟩
  obtain⟨ta,tn,tc,rfl⟩:=g3.ints.shape
  go_wp2_with fail
  go_ret2
  exact⟨_,rfl,by exact Ag,_,by rw[HN.out];rfl,by rw[HN.out];exact g3.mono (by have h1:=hE1.size;have h2:=hx2.size;omega)⟩
 obtain⟨p1,p2,p5,p6,q1,q2,q3,q4,p7⟩:=JB hp
 have p3:inb e.Client 2 5=true:=aH7 q1 q2
 have p4:inb e.Seq 1 2000=true:=aH7 q3 q4
 by_cases hq:(CQ s e.Client).Seq<e.Seq
 rotate_left
 .
  have hn:zZ s e=none:=by simp[zZ,hq]
  have HN:=Lib.hid hn
  have hf:decide ((CQ s e.Client).Seq<e.Seq)=false:=by simpa using hq
  clear hn hq
  go_upto_region 3 with(fail)
  refine rx0 aX4 fun w2 hx2=>?_
  go_wp2_with fail
  refine(TN _ _ s (h.ext (hE1.trans hx2)) oM).mono ?_
  rintro e9 w3⟨t9,rfl,hx3,g3⟩
  obtain⟨ta,tn,tc,rfl⟩:=g3.ints.shape
  go_wp2_with fail
  go_ret2
  exact⟨_,rfl,by exact Ag,_,by rw[HN.out];rfl,by rw[HN.out];exact g3.mono (by have h1:=hE1.size;have h2:=hx2.size;omega)⟩
 have hf:decide ((CQ s e.Client).Seq<e.Seq)=true:=by simpa using hq
 by_cases hl:e.Index<=AB s
 .
  have hn:zZ s e=none:=by simp[zZ];omega
  have HN:=Lib.hid hn
  have hl1:decide (e.Index<=AB s)=true:=by simpa using hl
  clear hn hq hl
  go_upto_region 3 with(fail)
  refine rx0 aX4 fun w2 hx2=>?_
  go_wp2_with fail
  refine(TN _ _ s (h.ext (hE1.trans hx2)) oM).mono ?_
  rintro e9 w3⟨t9,rfl,hx3,g3⟩
  obtain⟨ta,tn,tc,rfl⟩:=g3.ints.shape
  go_wp2_with fail
  go_ret2
  exact⟨_,rfl,by exact Ag,_,by rw[HN.out];rfl,by rw[HN.out];exact g3.mono (by have h1:=hE1.size;have h2:=hx2.size;omega)⟩
 have hn:zZ s e=some (wS s (IZ e)):=by simp[zZ,hp];omega
 have HN:=Lib.hid hn
 have hl1:decide (e.Index<=AB s)=false:=by simpa using hl
 clear hn hq hl
 go_upto_region 3 with(fail)
 refine rx0 aX4 fun w2 hx2=>?_
 clear hf hl1
 have hE2:=hE1.trans hx2
 have K2:=K1.ext hx2
 obtain⟨C2,F2,L2⟩:=K2.cfl
 go_upto_region 6 with(fail)
 obtain⟨W5,hW5⟩:∃W5,W5=w2.alloc (.cells #[.int .i64 e.Client,.int .i64 e.Seq,.int .i64 e.Index] 290):=⟨_,rfl⟩
 have hx5:Ext w2 W5:=by rw[hW5];exact(Ext.refl _).alloc _
 have KX:Blk W5 w2.heap.size 290 #[.int .i64 e.Client,.int .i64 e.Seq,.int .i64 e.Index]:=by rw[hW5];exact Blk.new _ _ _
 rw[<-hW5]
 clear hW5 C2 F2 L2 x0 x1 x2 x3 x4 x5 x6 x7 x8 K1
 have K5:=K2.ext hx5
 have hE5:=hE2.trans hx5
 have LX:=KX.lt
 go_wp2_with fail
 go_loopw [7,8,9] (fun out dn ii wr=>∃(k:Nat) (b:Bool),k<=s.length/\ii=.int .i64 k/\dn=.bool b/\Ext W5 wr/\Ba W5.heap.size 290 3 wr out (Xh (if b then wS (s.take k) (IZ e) else s.take k))/\Hid (b=false->∀m,m ∈ s.take k->m.Client<e.Client)/\Hid (b=true->∃m,m ∈ s.take k/\e.Client<=m.Client)) (fun _ _ ii _=>s.length - (intOf ii).toNat)
 case atStart=>exact⟨0,false,Nat.zero_le _,rfl,rfl,(Ext.refl _).alloc _,Ba.lit0m W5 _ _,Lib.hid (fun _ m hm=>by simp at hm),Lib.hid (fun h=>by cases h)⟩
 case round =>
  obtain⟨k,b,hk,rfl,rfl,he,hown,HF,HT⟩:=hrel
  have hzr:=he.size
  obtain⟨a1,n1,c1,rfl,-,-,-⟩:=hown.open_
  have CE:=(K5.ext he).cell;have CX:=(KX.ext he).cell
  have LE:=(K5.ext he).lt;have LX2:=(KX.ext he).lt
  have hlp:=bU5 (s.take k) (IZ e)
  have hlt2:(s.take k).length<=k:=by simp;omega
  by_cases hlt:k<s.length
  .
   obtain⟨d,b1,o1,hd,rfl,hb1,c⟩:=HA.out k hlt
   have d0:=(hE5.trans he).cell (c 0 _ dC rfl)
   have d1:=(hE5.trans he).cell (c 1 _ dC rfl)
   have d2:=(hE5.trans he).cell (c 2 _ dC rfl)
   simp only[Nat.add_zero] at d0
   have HD:=Lib.hid hd
   have hts:s.take (k+1)=s.take k++[d]:=by rw[List.take_add_one,hd];rfl
   have HTS:=Lib.hid hts
   clear c hd hts
   cases b
   .
    rw[if_neg dC] at hown
    by_cases hge:e.Client<=d.Client
    .
     have hge1:decide (e.Client<=d.Client)=true:=by simpa using hge
     by_cases hne:d.Client=e.Client
     .
      have hne1:(d.Client != e.Client)=false:=by simpa using hne
      have hne2:decide (d.Client=e.Client)=true:=by simpa using hne
      have HG:=Lib.hid hge;have HNE:=Lib.hid hne
      clear hge hne
      go_wp2_with fail
      go_quiet (fail)
      go_wp2_with (first|(at_builtin;refine IC rfl _ _ 73 rfl 290 i0 _ 3 24 Tryz.underlying73 hi hz0 hz1 hz2 rfl dC (W5.heap.size) _ _ rfl (Own.ext hown Ag) _ (([e.Client,e.Seq,e.Index]:List Int).map (.int .i64)) rfl (Sl.oneAtM _ #[.int .i64 e.Client,.int .i64 e.Seq,.int .i64 e.Index] _ 3 _ (by first|rfl|simp) rfl) (ints_oneCell _ _) 1000 (by have:=HLEN.out;simp only[List.length_map,List.length_cons,List.length_nil,List.length_append,CY];omega) (by unfold maxLen;omega) oM (by simp;omega) W5 Ag oM ?_;rotate_right;intro v1 wa1 hown1 hea1 _;have hza1:=hea1.size))
      have d01:=hea1.cells
      have CE1:=(K5.ext hea1).cell;have CX1:=(KX.ext hea1).cell
      have y0:=(hE5.trans hea1).cell (show w.cell? ⟨b1,o1+k*3,none⟩=some (.int .i64 d.Client) from by have:=(HA.out k hlt);obtain⟨d',b',o',hd',hb',_,c'⟩:=this;injection hb' with hb';injection hb' with q1 q2 q3;subst q1;subst q2;rw[HD.out] at hd';obtain rfl:=Option.some.inj hd';simpa using c' 0 _ dC rfl)
      clear CE CX d0 d1 d2 d01
      go_wp2_with fail
      go_quiet (fail)
      go_wp2_with fail
      go_roundw
      case rel=>exact⟨k+1,true,by omega,by go_num,rfl,by exact Ag,NQ (Ba.ext (VM hown1) Ag) (by
       rw[if_pos rfl,HTS.out,aA7 (HF.out (by trivial)),show wS [d] (IZ e)=[IZ e] from by rw[wS,if_neg (show ¬ (IZ e).Client<d.Client from by have:=HNE.out;show ¬ e.Client<d.Client;omega),if_pos (show(IZ e).Client=d.Client from HNE.out.symm)],MD];try rfl),Lib.hid (fun h=>by cases h),Lib.hid (fun _=>⟨d,by rw[HTS.out];simp,HG.out⟩)⟩
      case measure=>simp[intOf];omega
     have hne1:(d.Client != e.Client)=true:=by simpa using hne
     have hne2:decide (d.Client=e.Client)=false:=by simpa using hne
     have HG:=Lib.hid hge;have HNE:=Lib.hid hne
     clear hge hne
     go_wp2_with fail
     go_quiet (fail)
     go_wp2_with (first|(at_builtin;refine IC rfl _ _ 73 rfl 290 i0 _ 3 24 Tryz.underlying73 hi hz0 hz1 hz2 rfl dC (W5.heap.size) _ _ rfl (Own.ext hown Ag) _ (([e.Client,e.Seq,e.Index]:List Int).map (.int .i64)) rfl (Sl.oneAtM _ #[.int .i64 e.Client,.int .i64 e.Seq,.int .i64 e.Index] _ 3 _ (by first|rfl|simp) rfl) (ints_oneCell _ _) 1000 (by have:=HLEN.out;simp only[List.length_map,List.length_cons,List.length_nil,List.length_append,CY];omega) (by unfold maxLen;omega) oM (by simp;omega) W5 Ag oM ?_;rotate_right;intro v1 wa1 hown1 hea1 _;have hza1:=hea1.size))
     have CE1:=(K5.ext hea1).cell;have CX1:=(KX.ext hea1).cell
     have hyy:∀j u,j<3->(Bz.ints d)[j]?=some u->wa1.cell? ⟨b1,o1+k*3+j,none⟩=some (.int .i64 u):=fun j u hj hu=>by
      obtain⟨d',b',o',hd',hb',_,c'⟩:=HA.out k hlt
      injection hb' with hb';injection hb' with q1 q2 q3;subst q1;subst q2;rw[HD.out] at hd';obtain rfl:=Option.some.inj hd'
      exact(hE5.trans hea1).cell (c' j u hj hu)
     have y0:=hyy 0 _ dC rfl;have y1:=hyy 1 _ dC rfl;have y2:=hyy 2 _ dC rfl
     simp only[Nat.add_zero] at y0
     clear CE CX d0 d1 d2 hyy
     go_wp2_with fail
     go_quiet (fail)
     go_wp2_with (first|(at_builtin;refine IC rfl _ _ 73 rfl 290 i0 _ 3 24 Tryz.underlying73 hi hz0 hz1 hz2 rfl dC (W5.heap.size) _ _ rfl (Own.ext hown1 Ag) _ (([d.Client,d.Seq,d.Index]:List Int).map (.int .i64)) rfl (Sl.oneAtM _ #[.int .i64 d.Client,.int .i64 d.Seq,.int .i64 d.Index] _ 3 _ (by first|rfl|simp) rfl) (ints_oneCell _ _) 1000 (by have:=HLEN.out;simp only[List.length_map,List.length_cons,List.length_nil,List.length_append,CY];omega) (by unfold maxLen;omega) oM (by simp;omega) W5 Ag oM ?_;rotate_right;intro v2 wa2 hown2 hea2 _;have hza2:=hea2.size))
     go_roundw
     case rel=>exact⟨k+1,true,by omega,by go_num,rfl,hea2,NQ (cG3 hown2) (by
      rw[if_pos rfl,HTS.out,aA7 (HF.out (by trivial)),show wS [d] (IZ e)=[IZ e,d] from by rw[wS,if_pos (show(IZ e).Client<d.Client from by have:=HNE.out;have:=HG.out;show e.Client<d.Client;omega)],show s.take k++[IZ e,d]=s.take k++[IZ e]++[d] by simp,MD,MD];try rfl),Lib.hid (fun h=>by cases h),Lib.hid (fun _=>⟨d,by rw[HTS.out];simp,HG.out⟩)⟩
     case measure=>simp[intOf];omega
    have hge1:decide (e.Client<=d.Client)=false:=by simpa using hge
    have hne1:(d.Client != e.Client)=true:=by simp;omega
    have hne2:decide (d.Client=e.Client)=false:=by simp;omega
    have HG:=Lib.hid hge
    clear hge
    go_wp2_with fail
    go_quiet (fail)
    go_wp2_with fail
    go_quiet (fail)
    go_wp2_with (first|(at_builtin;refine IC rfl _ _ 73 rfl 290 i0 _ 3 24 Tryz.underlying73 hi hz0 hz1 hz2 rfl dC (W5.heap.size) _ _ rfl (Own.ext hown Ag) _ (([d.Client,d.Seq,d.Index]:List Int).map (.int .i64)) rfl (Sl.oneAtM _ #[.int .i64 d.Client,.int .i64 d.Seq,.int .i64 d.Index] _ 3 _ (by first|rfl|simp) rfl) (ints_oneCell _ _) 1000 (by have:=HLEN.out;simp only[List.length_map,List.length_cons,List.length_nil,List.length_append,CY];omega) (by unfold maxLen;omega) oM (by simp;omega) W5 Ag oM ?_;rotate_right;intro v2 wa2 hown2 hea2 _;have hza2:=hea2.size))
    go_roundw
    case rel=>exact⟨k+1,false,by omega,by go_num,rfl,hea2,NQ (VM hown2) (by rw[if_neg dC,HTS.out,MD];try rfl),Lib.hid (fun _ m hm=>by
      rw[HTS.out] at hm
      rcases List.mem_append.1 hm with hm|hm
      .
       exact HF.out (by trivial) m hm
      simp at hm;subst hm;have:=HG.out;omega),Lib.hid (fun h=>by cases h)⟩
    case measure=>simp[intOf];omega
   rw[if_pos rfl] at hown
   have hne:d.Client≠e.Client:=by
    obtain⟨m,hm,hme⟩:=HT.out (by trivial)
    obtain⟨i,hi9,him⟩:=List.getElem_of_mem hm
    have hik:i<k:=by simp at hi9;omega
    have hp9:=List.pairwise_iff_getElem.1 (IL.1 HS.out).2 i k oM hlt hik
    have e1:s[i]=m:=by rw[<-him];simp
    have e2:s[k]=d:=(List.getElem?_eq_some_iff.1 HD.out).2
    rw[e1,e2] at hp9
    omega
   have hne1:(d.Client != e.Client)=true:=by simpa using hne
   have hne2:decide (d.Client=e.Client)=false:=by simpa using hne
   clear hne
   go_wp2_with fail
   go_quiet (fail)
   go_wp2_with fail
   go_quiet (fail)
   go_wp2_with (first|(at_builtin;refine IC rfl _ _ 73 rfl 290 i0 _ 3 24 Tryz.underlying73 hi hz0 hz1 hz2 rfl dC (W5.heap.size) _ _ rfl (Own.ext hown Ag) _ (([d.Client,d.Seq,d.Index]:List Int).map (.int .i64)) rfl (Sl.oneAtM _ #[.int .i64 d.Client,.int .i64 d.Seq,.int .i64 d.Index] _ 3 _ (by first|rfl|simp) rfl) (ints_oneCell _ _) 1000 (by have:=HLEN.out;simp only[List.length_map,List.length_cons,List.length_nil,List.length_append,CY];omega) (by unfold maxLen;omega) oM (by simp;omega) W5 Ag oM ?_;rotate_right;intro v2 wa2 hown2 hea2 _;have hza2:=hea2.size))
   go_roundw
   case rel=>exact⟨k+1,true,by omega,by go_num,rfl,hea2,NQ (VM hown2) (by rw[if_pos rfl,HTS.out,bT4 (HT.out (by trivial)),MD];try rfl),Lib.hid (fun h=>by cases h),Lib.hid (fun _=>by
     obtain⟨m,hm,hme⟩:=HT.out (by trivial)
     exact⟨m,by rw[HTS.out];exact List.mem_append_left _ hm,hme⟩)⟩
   case measure=>simp[intOf];omega
  obtain rfl:k=s.length:=by omega
  rw[List.take_length] at hown HF HT
  cases b
  .
   rw[if_neg dC] at hown
   go_wp2_with (first|(at_builtin;refine IC rfl _ _ 73 rfl 290 i0 _ 3 24 Tryz.underlying73 hi hz0 hz1 hz2 rfl dC (W5.heap.size) _ _ rfl (Own.ext hown Ag) _ (([e.Client,e.Seq,e.Index]:List Int).map (.int .i64)) rfl (Sl.oneAtM _ #[.int .i64 e.Client,.int .i64 e.Seq,.int .i64 e.Index] _ 3 _ (by first|rfl|simp) rfl) (ints_oneCell _ _) 1000 (by have:=HLEN.out;simp only[List.length_map,List.length_cons,List.length_nil,List.length_append,CY];omega) (by unfold maxLen;omega) oM (by simp;omega) W5 Ag oM ?_;rotate_right;intro v1 wa1 hown1 hea1 _;have hza1:=hea1.size))
   obtain⟨ta,tn,tc,rfl⟩:=(Ba.ints (VM hown1)).shape
   go_ret2
   refine⟨_,rfl,hE5.trans hea1,_,by rw[HN.out];rfl,?_⟩
   rw[HN.out]
   show Ba w.heap.size 290 3 wa1 _ (Xh (wS s (IZ e)))
   refine Ba.mono (NQ (VM hown1) ?_) (by have:=hE5.size;omega)
   have h9:=aA7 (A:=s) (B:=[]) (x:=IZ e) (HF.out (by trivial))
   rw[List.append_nil] at h9
   rw[h9,show wS [] (IZ e)=[IZ e] from rfl,MD];rfl
  rw[if_pos rfl] at hown
  go_wp2_with fail
  go_ret2
  refine⟨_,rfl,hE5.trans he,_,by rw[HN.out];rfl,?_⟩
  rw[HN.out]
  exact hown.mono (by have:=hE5.size;omega)
theorem YC(w:World)(v u:Value)(s:List Bz)(l:List Bj)(h:Aw 3 w v (Xh s))(h2:Aw 9 w u (wM l))(hs:GT s=true)(hl:l.length<=2000):Calls Tryz.prog 307 #[v,u] w (Ret w fun r w'=>∃x,r=.tuple #[x,.bool (wL s l).isSome]/\Ba w.heap.size 290 3 w' x (Xh ((wL s l).getD s))):=by
 have hlen:=(IL.1 hs).len
 obtain⟨av,nv,cv,rfl⟩:=h.shape
 obtain⟨a,cap,rfl,hcap,hm,ha⟩:=h2.recs (f:=Bj.ints) (fun _=>rfl) dC
 have HA:=Lib.hid ha;have HS:=Lib.hid hs
 clear ha hs
 unfold maxLen at hm
 go_enter Tryz.func307,Tryz.ntmps307
 go_wp2_with fail
 refine(NL _ _ s h).mono ?_
 rintro e1 w1⟨rfl,hx1⟩
 rw[HS.out]
 go_wp2_with fail
 refine(TN _ _ s (h.ext hx1) oM).mono ?_
 rintro e2 w2⟨t2,rfl,hx2,g2⟩
 obtain⟨a2,n2,c2,rfl⟩:=g2.ints.shape
 have hE2:=hx1.trans hx2
 go_wp2_with fail
 go_loopw [6,7] (fun out ii wr=>∃(k:Nat) (t:List Bz),k<=l.length/\ii=.int .i64 k/\Ext w wr/\Ba w.heap.size 290 3 wr out (Xh t)/\Hid (wL s (l.take k)=some t)) (fun _ ii _=>l.length - (intOf ii).toNat)
 case atStart=>exact⟨0,s,Nat.zero_le _,rfl,hE2,g2.mono hx1.size,Lib.hid rfl⟩
 case round =>
  obtain⟨k,t,hk,rfl,he,hout,HT⟩:=hrel
  obtain⟨a3,n3,c3,rfl⟩:=hout.ints.shape
  by_cases hlt:k<l.length
  .
   obtain⟨d,b1,o1,hd,rfl,hb1,c⟩:=HA.out k hlt
   have d0:=he.cell (c 0 _ dC rfl)
   have d1:=he.cell (c 1 _ dC rfl)
   have d2:=he.cell (c 2 _ dC rfl)
   have d3:=he.cell (c 3 _ dC rfl)
   have d4:=he.cell (c 4 _ dC rfl)
   have d5:=he.cell (c 5 _ dC rfl)
   have d6:=he.cell (c 6 _ dC rfl)
   have d7:=he.cell (c 7 _ dC rfl)
   have d8:=he.cell (c 8 _ dC rfl)
   simp only[Nat.add_zero] at d0
   have HD:=Lib.hid hd
   clear c hd
   go_wp2_with fail
   refine(bU6 _ _ t d hout.ints (MN (PZ (IL.1 HS.out) HT.out))).mono ?_
   rintro e3 w3⟨_,rfl,hx3,r3,rfl,g3⟩
   obtain⟨a4,n4,c4,rfl⟩:=g3.ints.shape
   clear d0 d1 d2 d3 d4 d5 d6 d7 d8
   cases hst:zZ t d with
   | none =>
    rw[hst] at g3
    have hn:wL s l=none:=NP HD.out HT.out hst
    have HN:=Lib.hid hn
    clear hn hst
    go_wp2_with fail
    refine(TN _ _ s (h.ext (he.trans hx3)) oM).mono ?_
    rintro e4 w4⟨t4,rfl,hx4,g4⟩
    obtain⟨a5,n5,c5,rfl⟩:=g4.ints.shape
    go_wp2_with fail
    go_ret2
    exact⟨_,rfl,by exact Ag,_,by rw[HN.out];rfl,by rw[HN.out];exact g4.mono (by have h1:=(he.trans hx3).size;omega)⟩
   | some t' =>
    rw[hst] at g3
    have hn:wL s (l.take (k+1))=some t':=by rw[QR HD.out HT.out,hst]
    have HN:=Lib.hid hn
    clear hn hst
    go_wp2_with fail
    go_roundw
    case rel=>exact⟨k+1,t',by omega,by go_num,he.trans hx3,g3.mono he.size,HN⟩
    case measure=>simp[intOf];omega
  obtain rfl:k=l.length:=by omega
  rw[List.take_length] at HT
  go_wp2_with fail
  go_ret2
  exact⟨_,rfl,he,_,by rw[HT.out];rfl,by rw[HT.out];exact hout⟩
section
open Go.Proofs.YtkpmbocbbgocbaaGreat Go.Maps
def TO:Value->Option (DataW Unit × List MemPlace)
 | .agg cs=>match cs.toList with
  | [.int .i64 c,.int .i64 s,.int .i64 i]=>some (.agg [.lit (.int .i64 c),.lit (.int .i64 s),.lit (.int .i64 i)],[])
  | _=>none
 | _=>none
def bU7(m:Bz):DataW Unit:=.agg [.lit (.int .i64 m.Client),.lit (.int .i64 m.Seq),.lit (.int .i64 m.Index)]
def aK8(m:Bz):Value:=.agg #[.int .i64 m.Client,.int .i64 m.Seq,.int .i64 m.Index]
theorem TP(m:Bz):TO (aK8 m)=some (bU7 m,[]):=rfl
theorem WH{v:Value}{m:Bz}{ps:List MemPlace}(h:TO v=some (bU7 m,ps)):v=aK8 m:=by
 unfold TO at h
 split at h
 .
  rename_i cs
  split at h
  .
   rename_i c s i hl
   injection h with h;injection h with h _
   unfold bU7 at h
   injection h with h;injection h with h1 h;injection h with h2 h;injection h with h3 _
   injection h1 with h1;injection h1 with _ h1;injection h2 with h2;injection h2 with _ h2;injection h3 with h3;injection h3 with _ h3
   subst h1;subst h2;subst h3
   have:cs=#[.int .i64 m.Client,.int .i64 m.Seq,.int .i64 m.Index]:=by
    apply Array.toList_inj.1;exact hl
   rw[this];rfl
  cases h
 cases h
def OL(P:Program)(k:TypeId)(w:World)(b n:Nat)(M:Int->Option Bz):Prop :=
 ∃D:DataW Unit,w.ownsMap P k TO b n D/\Go.Maps.IsMap D/\∀x,(Lit.int .i64 x).wf=true->D.atKey (.int .i64 x) (bU7 TF)=bU7 ((M x).getD TF)/\Go.Maps.has D (.int .i64 x)=(M x).isSome
section
variable {P:Program} {k e:TypeId} {w w':World} {b n:Nat} {M:Int->Option Bz}
theorem OL.made(P:Program)(k:TypeId)(w:World):OL P k (w.alloc (.map #[] 0)) w.heap.size 0 (fun _=>none) :=
 ⟨.map [],World.ownsMap_made _ _ _ _,Go.Maps.isMap_empty,fun x _=>⟨by simp[DataW.atKey],rfl⟩⟩
theorem OL.lt(h:OL P k w b n M):b<w.heap.size:=by obtain⟨D,h,_⟩:=h;exact h.lt
theorem OL.kept{row:Option Nat}(h:OL P k w b n M)(hg:w.grownBy w' row)(hne:some b≠row):OL P k w' b n M:=by
 obtain⟨D,h,h1,h2⟩:=h
 exact⟨D,h.kept hg hne,h1,h2⟩
theorem OL.ext(h:OL P k w b n M)(x:Ext w w'):OL P k w' b n M:=h.kept x.grown (by simp)
theorem OL.cast{M':Int->Option Bz}(h:OL P k w b n M)(e:∀x,M x=M' x):OL P k w b n M':=by
 obtain⟨D,h,h1,h2⟩:=h
 exact⟨D,h,h1,fun x hx=>by rw[<-e x];exact h2 x hx⟩
theorem OL.look{t:TypeId}(h:OL P k w b n M)(hk:P.underlying k=some (.int .i64))(ht:P.underlying t=some (.map k e))(hz:(zeroValue e).run P w=.ok (aK8 TF) w)
  {x:Int} (hx:(Lit.int .i64 x).wf=true):(Instr.lookup t (.map (some b)) (.int .i64 x) false).run P w=.ok (aK8 ((M x).getD TF)) w:=by
 obtain⟨D,h,_,h2⟩:=h
 obtain⟨v,ps,hrun,hv⟩:=h.lookup (Go.Maps.int_keyed hk) ht hz (TP TF) (Go.Maps.keyOf_int_mk hk hx)
 rw[(h2 x hx).1] at hv
 rw[hrun,WH hv]
theorem OL.look_ok{t:TypeId}(h:OL P k w b n M)(hk:P.underlying k=some (.int .i64))(ht:P.underlying t=some (.map k e))(hz:(zeroValue e).run P w=.ok (aK8 TF) w)
  {x:Int} (hx:(Lit.int .i64 x).wf=true):(Instr.lookup t (.map (some b)) (.int .i64 x) true).run P w=.ok (.tuple #[aK8 ((M x).getD TF),.bool (M x).isSome]) w:=by
 obtain⟨D,h,_,h2⟩:=h
 obtain⟨v,ps,hrun,hv⟩:=World.ownsMap.look_ok h (Go.Maps.int_keyed hk) ht hz (TP TF) (Go.Maps.keyOf_int_mk hk hx)
 rw[(h2 x hx).1] at hv
 rw[hrun,WH hv,(h2 x hx).2]
theorem YD{ops:Array Oper}{rest:List Oper}{o:Oper}{a:Act}{Q:Exit->Act->World->Prop}(hg:o.guard=none)(m x v:Operand)(t:TypeId)(hop:o.op=.mapUpdate t m x v)
  (k e:TypeId) (hk:P.underlying k=some (.int .i64)) (ht:P.underlying t=some (.map k e)) (b n:Nat) (M:Int->Option Bz) (X:Int) (d:Bz) (hm:a.eval m=.map (some b)) (hx:a.eval x=.int .i64 X) (hv:a.eval v=.agg #[.int .i64 d.Client,.int .i64 d.Seq,.int .i64 d.Index])
  (h:OL P k w b n M) (hn:n<maxLen) (hw:(Lit.int .i64 X).wf=true)
  (hK:∀w',OL P k w' b (n+1) (fun y=>if y=X then some d else M y)->w.grownBy w' (some b)->wpList P ops Q rest (a.put o.dst undef) w'):wpList P ops Q (o::rest) a w:=by
 refine wpList_plain hg fun K' hK'=>?_
 obtain⟨D,h,h1,h2⟩:=h
 obtain⟨w',hrun,hown,hgr⟩:=h.update (Go.Maps.int_keyed hk) ht hn (Go.Maps.keyOf_int_mk hk hw) (TP d)
 have hs:OL P k w' b (n+1) (fun y=>if y=X then some d else M y):=by
  refine⟨_,hown,h1.put _ _,fun y hy=>?_⟩
  by_cases hxy:y=X
  .
   subst hxy
   rw[Go.Maps.atKey_put_same h1 ((Go.Maps.int_keyed hk).key (Go.Maps.keyOf_int_mk hk hy)),Go.Maps.has_put_same h1 ((Go.Maps.int_keyed hk).key (Go.Maps.keyOf_int_mk hk hy))]
   simp
  have hne:(Lit.int .i64 y)≠Lit.int .i64 X:=fun hh=>by injection hh with _ hh;exact hxy hh
  rw[Go.Maps.atKey_put_other hne,Go.Maps.has_put_other hne]
  simpa[hxy] using h2 y hy
 unfold aK8 at hrun
 unfold Oper.wp
 simp[execOp,hop,hm,hx,hv,hrun,Result.andThen]
 exact hK' _ _ (hK w' hs hgr)
theorem aQ6{ops:Array Oper}{rest:List Oper}{o:Oper}{a:Act}{Q:Exit->Act->World->Prop}(hg:o.guard=none)(m x:Operand)(t k:TypeId)(hop:o.op=Op.call { callee:=Callee.builtin Builtin.delete,args:=#[m,x],argTypes:=#[t,k] })
  (e:TypeId) (hk:P.underlying k=some (.int .i64)) (ht:P.underlying t=some (.map k e)) (b n:Nat) (M:Int->Option Bz) (X:Int) (hm:a.eval m=.map (some b)) (hx:a.eval x=.int .i64 X)
  (h:OL P k w b n M) (hw:(Lit.int .i64 X).wf=true)
  (hK:∀w',OL P k w' b n (fun y=>if y=X then none else M y)->w.grownBy w' (some b)->wpList P ops Q rest (a.put o.dst (.tuple #[])) w'):wpList P ops Q (o::rest) a w:=by
 obtain⟨D,h,h1,h2⟩:=h
 refine wpList_delete_own w hg m x t k hop e (Go.Maps.int_keyed hk) ht TO b n D hm h _ (.int .i64 X) hx (Go.Maps.keyOf_int_mk hk hw) (fun w' hown hturn=>hK w' ?_ hturn.grown)
 refine⟨_,hown,h1.del _,fun y hy=>?_⟩
 by_cases hxy:y=X
 .
  subst hxy
  rw[Go.Maps.atKey_del_same,Go.Maps.has_del_same]
  simp
 have hne:(Lit.int .i64 y)≠Lit.int .i64 X:=fun hh=>by injection hh with _ hh;exact hxy hh
 rw[Go.Maps.atKey_del_other hne,Go.Maps.has_del_other hne]
 simpa[hxy] using h2 y hy
end
theorem BN.take{l:List Bz}(h:BN l)(k:Nat):BN (l.take k):=⟨fun m hm=>h.1 m (List.mem_of_mem_take hm),h.2.sublist (List.take_sublist k l)⟩
theorem aE3{l:List Bz}{d:Bz}(h:BN (l++[d]))(x:Int):lP (l++[d]) x=if x=d.Client then some d else lP l x:=by
 rw[lP,List.find?_append]
 by_cases hx:x=d.Client
 .
  rw[if_pos hx,show List.find? (fun m=>decide (m.Client=x)) l=none from UX (fun m hm=>by
   have:=((List.pairwise_append.1 h.2).2.2 m hm d (by simp)).1
   omega)]
  simp[hx]
 rw[if_neg hx,List.find?_cons_of_neg (by simpa using fun e=>hx e.symm)]
 simp only[List.find?_nil,Option.or_none,lP]
end
theorem cI9(w:World):(zeroValue 290).run Tryz.prog w=.ok (aK8 TF) w:=by kernel_rfl
theorem aB0(w:World)(v u:Value)(s:List Bz)(l:List Bj)(h:Aw 3 w v (Xh s))(h2:Aw 9 w u (wM l))(hs:GT s=true)(hl:l.length<=2000):Calls Tryz.prog 282 #[v,u] w (Ret w fun r w'=>∃x,r=.tuple #[x,.bool (wL s l).isSome]/\Aw 3 w' x (Xh ((wL s l).getD s))):=by
 have hlen:=(IL.1 hs).len
 obtain⟨av,capv,rfl,hcapv,hmv,hav⟩:=h.recs (f:=Bz.ints) (fun _=>rfl) dC
 obtain⟨a,cap,rfl,hcap,hm,ha⟩:=h2.recs (f:=Bj.ints) (fun _=>rfl) dC
 have HA:=Lib.hid ha;have HV:=Lib.hid hav;have HS:=Lib.hid hs;have HLEN:=Lib.hid hlen
 clear ha hav hs
 unfold maxLen at hm hmv
 obtain⟨i0,hi,hz0,hz1,hz2⟩:=info_parts aK7
 have hmm:=@run_makeMap Tryz.prog
 go_enter Tryz.func282,Tryz.ntmps282
 go_wp2_with fail
 refine(aA8 _ _ s h).mono ?_
 rintro e1 w1⟨rfl,hx1⟩
 rw[HS.out]
 have sz1:=hx1.size
 go_wp2_with fail
 clear hmm
 go_loopw [27] (fun ii wr=>∃k:Nat,k<=s.length/\ii=.int .i64 k/\Ext w1 wr/\OL Tryz.prog 2 wr w1.heap.size k (lP (s.take k))) (fun ii _=>s.length - (intOf ii).toNat)
 case atStart=>exact⟨0,Nat.zero_le _,rfl,(Ext.refl _).alloc _,(OL.made Tryz.prog 2 w1).cast (fun x=>by simp[lP])⟩
 case round =>
  obtain⟨k,hk,rfl,he,hset⟩:=hrel
  have hsz:=he.size
  have hset0:=hset.lt
  by_cases hlt:k<s.length
  .
   obtain⟨d,b1,o1,hd,rfl,hb1,c⟩:=HV.out k hlt
   have d0:=(hx1.trans he).cell (c 0 _ dC rfl)
   have d1:=(hx1.trans he).cell (c 1 _ dC rfl)
   have d2:=(hx1.trans he).cell (c 2 _ dC rfl)
   simp only[Nat.add_zero] at d0
   have HD:=Lib.hid hd
   clear c hd
   have hw:(Lit.int .i64 d.Client).wf=true:=WalkArith.wf_i64 (by have:=NK ((IL.1 HS.out).1 d (List.mem_of_getElem? HD.out));omega)
   go_wp2_with (first|(at_mapUpdate;refine YD rfl _ _ _ 390 rfl 2 290 Tryz.underlying2 Tryz.underlying390 _ _ _ _ d rfl rfl rfl (hset.ext ((Ext.refl _).alloc _)) (by unfold maxLen;omega) hw ?_;intro w2 hset2 hgr2))
   have hx2:=(he.alloc _).grownOwn hgr2 oM
   go_roundw
   case rel=>exact⟨k+1,by omega,by go_num,hx2,hset2.cast (fun x=>by
    have hts:s.take (k+1)=s.take k++[d]:=by rw[List.take_add_one,HD.out];rfl
    rw[hts,aE3 (by rw[<-hts];exact(IL.1 HS.out).take _)])⟩
   case measure=>simp[intOf];omega
  obtain rfl:k=s.length:=by omega
  rw[List.take_length] at hset
  go_wp2_with fail
  refine(aA9 _ _ s (h.ext (hx1.trans he))).mono ?_
  rintro e2 w2⟨rfl,hx2⟩
  have hset2:=hset.ext hx2
  have hE2:=he.trans hx2
  clear hset he hset0 hx2
  go_wp2_with fail
  go_loopw [9,40] (fun lv ii wr=>∃(k:Nat) (t:List Bz) (n:Nat),k<=l.length/\ii=.int .i64 k/\(∃z:Int,z=AB t/\lv=.int .i64 z)/\n<=4+k/\Ext w1 wr/\OL Tryz.prog 2 wr w1.heap.size n (lP t)/\Hid (wL s (l.take k)=some t)) (fun _ ii _=>l.length - (intOf ii).toNat)
  case atStart=>exact⟨0,s,s.length,Nat.zero_le _,rfl,⟨_,rfl,rfl⟩,by omega,hE2,hset2,Lib.hid rfl⟩
  case round =>
   clear hset2 hE2
   obtain⟨k,t,n,hk,rfl,⟨z,hz,rfl⟩,hn4,he,hset,HT⟩:=hrel
   have HZ:=Lib.hid hz
   clear hz
   have hsz:=he.size
   have hset0:=hset.lt
   by_cases hlt:k<l.length
   .
    obtain⟨d,b1,o1,hd,rfl,hb1,c⟩:=HA.out k hlt
    have d0:=(hx1.trans he).cell (c 0 _ dC rfl)
    have d1:=(hx1.trans he).cell (c 1 _ dC rfl)
    have d2:=(hx1.trans he).cell (c 2 _ dC rfl)
    have d3:=(hx1.trans he).cell (c 3 _ dC rfl)
    have d4:=(hx1.trans he).cell (c 4 _ dC rfl)
    have d5:=(hx1.trans he).cell (c 5 _ dC rfl)
    have d6:=(hx1.trans he).cell (c 6 _ dC rfl)
    have d7:=(hx1.trans he).cell (c 7 _ dC rfl)
    have d8:=(hx1.trans he).cell (c 8 _ dC rfl)
    simp only[Nat.add_zero] at d0
    have HD:=Lib.hid hd
    clear c hd
    go_upto_region 15 with(fail)
    obtain⟨W,hW⟩:∃W,W=wr.alloc (.cells #[.int .i64 d.Index,.int .i64 d.Time,.int .i64 d.Client,.int .i64 d.Seq,.int .i64 d.Op.Kind,.int .i64 d.Op.A,.int .i64 d.Op.B,.int .i64 d.Op.C,.int .i64 d.Op.D] 281):=⟨_,rfl⟩
    have heR:Ext wr W:=by rw[hW];exact(Ext.refl wr).alloc _
    have KX:Blk W wr.heap.size 281 #[.int .i64 d.Index,.int .i64 d.Time,.int .i64 d.Client,.int .i64 d.Seq,.int .i64 d.Op.Kind,.int .i64 d.Op.A,.int .i64 d.Op.B,.int .i64 d.Op.C,.int .i64 d.Op.D]:=by rw[hW];exact Blk.new _ _ _
    rw[<-hW]
    clear hW d0 d1 d2 d3 d4 d5 d6 d7 d8
    obtain⟨CX,FX,LX⟩:=KX.cfl
    cases hp:wN d
    .
     have hst:zZ t d=none:=by simp[zZ,hp]
     have HN:=Lib.hid (NP HD.out HT.out hst)
     clear hst
     go_wp2_with (first|(go_at_call 361;refine(NG _ d.Index d.Time d.Client d.Seq d.Op.Kind d.Op.A d.Op.B d.Op.C d.Op.D).mono ?_;rintro e9 w3 ⟨rfl,hx3⟩;rw[show wN (⟨d.Index,d.Time,d.Client,d.Seq,⟨d.Op.Kind,d.Op.A,d.Op.B,d.Op.C,d.Op.D⟩⟩:Bj)=false from hp]))
     refine(VN _ _ s (h.ext Ag) oM).mono ?_
     rintro e4 w4⟨t4,rfl,hx4,g4⟩
     obtain⟨a5,n5,c5,rfl⟩:=g4.ints.shape
     go_wp2_with fail
     go_ret2
     exact⟨_,rfl,by exact Ag,_,by rw[HN.out];rfl,by rw[HN.out];exact g4.ints⟩
    obtain⟨p1,p2,p5,p6,q1,q2,q3,q4,p7⟩:=JB hp
    have hw:(Lit.int .i64 d.Client).wf=true:=WalkArith.wf_i64 oM
    have hlk:∀wq,Ext wr wq->(Instr.lookup 390 (.map (some w1.heap.size)) (.int .i64 d.Client) false).run Tryz.prog wq=.ok (.agg #[.int .i64 (CQ t d.Client).Client,.int .i64 (CQ t d.Client).Seq,.int .i64 (CQ t d.Client).Index]) wq:=fun wq hq=>(hset.ext hq).look Tryz.underlying2 Tryz.underlying390 (cI9 _) hw
    by_cases hq:(CQ t d.Client).Seq<d.Seq
    rotate_left
    .
     have hst:zZ t d=none:=by simp[zZ,hq]
     have HN:=Lib.hid (NP HD.out HT.out hst)
     have hq1:decide (d.Seq<=(CQ t d.Client).Seq)=true:=by simp;omega
     clear hst hq
     go_wp2_with (first|(go_at_call 361;refine(NG _ d.Index d.Time d.Client d.Seq d.Op.Kind d.Op.A d.Op.B d.Op.C d.Op.D).mono ?_;rintro e9 w3 ⟨rfl,hx3⟩;rw[show wN (⟨d.Index,d.Time,d.Client,d.Seq,⟨d.Op.Kind,d.Op.A,d.Op.B,d.Op.C,d.Op.D⟩⟩:Bj)=true from hp];have KX3:=KX.ext hx3;have CX3:=KX3.cell;have FX3:=KX3.frozen;have LX3:=KX3.lt;have hl3:=hlk w3 (heR.trans hx3);have hfd:∀W:World,(Instr.field 290 (.agg #[.int .i64 (CQ t d.Client).Client,.int .i64 (CQ t d.Client).Seq,.int .i64 (CQ t d.Client).Index]) 1).run Tryz.prog W=.ok (.int .i64 (CQ t d.Client).Seq) W:=fun _=>by kernel_rfl))
     refine(VN _ _ s (h.ext Ag) oM).mono ?_
     rintro e4 w4⟨t4,rfl,hx4,g4⟩
     obtain⟨a5,n5,c5,rfl⟩:=g4.ints.shape
     go_wp2_with fail
     go_ret2
     exact⟨_,rfl,by exact Ag,_,by rw[HN.out];rfl,by rw[HN.out];exact g4.ints⟩
    have hq1:decide (d.Seq<=(CQ t d.Client).Seq)=false:=by simp;omega
    by_cases hlx:d.Index<=z
    .
     have hst:zZ t d=none:=by rw[HZ.out] at hlx;simp[zZ];omega
     have HN:=Lib.hid (NP HD.out HT.out hst)
     have hl1:decide (d.Index<=z)=true:=by simpa using hlx
     clear hst hq hlx
     go_wp2_with (first|(go_at_call 361;refine(NG _ d.Index d.Time d.Client d.Seq d.Op.Kind d.Op.A d.Op.B d.Op.C d.Op.D).mono ?_;rintro e9 w3 ⟨rfl,hx3⟩;rw[show wN (⟨d.Index,d.Time,d.Client,d.Seq,⟨d.Op.Kind,d.Op.A,d.Op.B,d.Op.C,d.Op.D⟩⟩:Bj)=true from hp];have KX3:=KX.ext hx3;have CX3:=KX3.cell;have FX3:=KX3.frozen;have LX3:=KX3.lt;have hl3:=hlk w3 (heR.trans hx3);have hfd:∀W:World,(Instr.field 290 (.agg #[.int .i64 (CQ t d.Client).Client,.int .i64 (CQ t d.Client).Seq,.int .i64 (CQ t d.Client).Index]) 1).run Tryz.prog W=.ok (.int .i64 (CQ t d.Client).Seq) W:=fun _=>by kernel_rfl))
     refine(VN _ _ s (h.ext Ag) oM).mono ?_
     rintro e4 w4⟨t4,rfl,hx4,g4⟩
     obtain⟨a5,n5,c5,rfl⟩:=g4.ints.shape
     go_wp2_with fail
     go_ret2
     exact⟨_,rfl,by exact Ag,_,by rw[HN.out];rfl,by rw[HN.out];exact g4.ints⟩
    have hl1:decide (d.Index<=z)=false:=by simpa using hlx
    have hst:zZ t d=some (wS t (IZ d)):=by rw[HZ.out] at hlx;simp[zZ,hp];omega
    have HST:=Lib.hid hst
    have HOK:=Lib.hid (PZ (IL.1 HS.out) HT.out)
    have HIX:=Lib.hid (PY HOK.out hst).2
    clear hst hq hlx
    go_upto_region 17 with(first|(go_at_call 361;refine(NG _ d.Index d.Time d.Client d.Seq d.Op.Kind d.Op.A d.Op.B d.Op.C d.Op.D).mono ?_;rintro e9 w3 ⟨rfl,hx3⟩;rw[show wN (⟨d.Index,d.Time,d.Client,d.Seq,⟨d.Op.Kind,d.Op.A,d.Op.B,d.Op.C,d.Op.D⟩⟩:Bj)=true from hp];have KX3:=KX.ext hx3;have CX3:=KX3.cell;have FX3:=KX3.frozen;have LX3:=KX3.lt;have hl3:=hlk w3 (heR.trans hx3);have hfd:∀W:World,(Instr.field 290 (.agg #[.int .i64 (CQ t d.Client).Client,.int .i64 (CQ t d.Client).Seq,.int .i64 (CQ t d.Client).Index]) 1).run Tryz.prog W=.ok (.int .i64 (CQ t d.Client).Seq) W:=fun _=>by kernel_rfl))
    have hset3:=(hset.ext (heR.trans hx3))
    have hE3:Ext w1 w3:=he.trans (heR.trans hx3)
    have hz3:=hE3.size
    clear hset
    go_wp2_with (first|(at_delete;refine aQ6 rfl _ _ 390 2 rfl 290 Tryz.underlying2 Tryz.underlying390 _ _ _ d.Client rfl rfl hset3 hw ?_;intro w5 hset5 hgr5;have hl5:=hgr5.size;have KX5:=KX3.grown hgr5 (fun h=>by injection h;omega);have CX5:=KX5.cell;have FX5:=KX5.frozen;have LX5:=KX5.lt)|(at_mapUpdate;refine YD rfl _ _ _ 390 rfl 2 290 Tryz.underlying2 Tryz.underlying390 _ _ _ _ (IZ d) rfl rfl rfl hset5 (by unfold maxLen;omega) hw ?_;intro w6 hset6 hgr6;have KX6:=KX5.grown hgr6 (fun h=>by injection h;omega);have CX6:=KX6.cell;have FX6:=KX6.frozen;have LX6:=KX6.lt))
    have hx5:=hE3.grownOwn hgr5 oM
    have hx6:=hx5.grownOwn hgr6 oM
    go_roundw
    case rel=>exact⟨k+1,wS t (IZ d),n+1,by omega,by go_num,⟨_,HIX.out.symm,rfl⟩,by omega,hx6,hset6.cast (fun x=>by
     by_cases hx:x=d.Client
     .
      rw[if_pos hx,hx];exact(aD8 HOK.out (IZ d)).symm
     rw[if_neg hx,if_neg hx,aA6 HOK.out (x:=IZ d) hx]),Lib.hid (by rw[QR HD.out HT.out,HST.out])⟩
    case measure=>simp[intOf];omega
   obtain rfl:k=l.length:=by omega
   rw[List.take_length] at HT
   have HOK:=Lib.hid (PZ (IL.1 HS.out) HT.out)
   have hlt4:=HOK.out.len
   go_upto_region 22 with(fail)
   obtain⟨W5,hW5⟩:∃W5,W5=wr:=⟨_,rfl⟩
   rw[<-hW5] at hset he ⊢
   have hz5:=he.size
   go_wp2_with fail
   go_loopw [12,13] (fun out ii wr=>∃j:Nat,j<=4/\ii=.int .i64 (2+(j:Int))/\Ext W5 wr/\Ba W5.heap.size 290 3 wr out (Xh ((List.range j).filterMap (fun i=>lP t (2+(i:Nat)))))) (fun _ ii _=>6 - (intOf ii).toNat)
   case atStart=>exact⟨0,by omega,rfl,(Ext.refl _).alloc _,Ba.lit0m W5 _ _⟩
   case round =>
    clear hW5
    obtain⟨j,hj,rfl,hey,hown⟩:=hrel
    have hzr:=hey.size
    obtain⟨a1,n1,c1,rfl,-,-,-⟩:=hown.open_
    have hjl:((List.range j).filterMap (fun i=>lP t (2+(i:Nat)))).length<=j:=by have:=List.length_filterMap_le (fun i=>lP t (2+((i:Nat):Int))) (List.range j);simpa using this
    have hrs:∀o:Option Bz,lP t (2+(j:Int))=o->(List.range (j+1)).filterMap (fun i=>lP t (2+(i:Nat)))=(List.range j).filterMap (fun i=>lP t (2+(i:Nat)))++o.toList:=fun o ho=>by rw[List.range_succ,List.filterMap_append,List.filterMap_cons,ho];cases o <;> rfl
    have HRS:=Lib.hid hrs
    clear hrs
    by_cases hj4:j<4
    .
     have hw:(Lit.int .i64 (2+(j:Int))).wf=true:=WalkArith.wf_i64 oM
     have hlk:=((hset.ext hey)).look_ok (t:=390) Tryz.underlying2 Tryz.underlying390 (cI9 _) hw
     unfold aK8 at hlk
     have hc:decide ((2+(j:Int))<=5)=true:=by simp;omega
     have hwr:IntKind.i64.wrap (2+(j:Int)+1)=2+((j+1:Nat):Int):=by rw[IntKind.wrap_i64] <;> (push_cast;omega)
     cases hf:lP t (2+(j:Int)) with
     | none =>
      rw[hf] at hlk
      simp only[Option.getD_none,Option.isSome_none] at hlk
      have HF:=Lib.hid hf
      clear hf
      go_wp2_with fail
      go_roundw
      case rel=>exact⟨j+1,by omega,by first|rfl|(push_cast;rfl)|(congr 1;push_cast;omega),by exact Ag,by rw[HRS.out _ HF.out];simpa using Ba.ext hown ((Ext.refl _).alloc _)⟩
      case measure=>simp[intOf];omega
     | some m =>
      rw[hf] at hlk
      simp only[Option.getD_some,Option.isSome_some] at hlk
      have HF:=Lib.hid hf
      clear hf
      go_wp2_with (first|(at_builtin;refine IC rfl _ _ 73 rfl 290 i0 _ 3 24 Tryz.underlying73 hi hz0 hz1 hz2 rfl dC (W5.heap.size) _ _ rfl (Own.ext hown Ag) _ (([m.Client,m.Seq,m.Index]:List Int).map (.int .i64)) rfl (Sl.oneAtM _ #[.int .i64 m.Client,.int .i64 m.Seq,.int .i64 m.Index] _ 3 _ (by first|rfl|simp) rfl) (ints_oneCell _ _) 1000 (by simp only[List.length_map,List.length_cons,List.length_nil,CY];omega) (by unfold maxLen;omega) oM (by simp;omega) W5 Ag oM ?_;rotate_right;intro v1 wa hown1 hea _))
      go_roundw
      case rel=>exact⟨j+1,by omega,by first|rfl|(push_cast;rfl)|(congr 1;push_cast;omega),hea,NQ (VM hown1) (by rw[HRS.out _ HF.out];simp only[Option.toList_some];rw[MD])⟩
      case measure=>simp[intOf];omega
    obtain rfl:j=4:=by omega
    rw[aX3 HOK.out] at hown
    go_wp2_with fail
    go_ret2
    exact⟨_,rfl,by exact Ag,_,by rw[HT.out];rfl,by rw[HT.out];exact hown.ints⟩
theorem bK0(w:World)(v u:Value)(l m:List Bz)(h:Aw 3 w v (Xh l))(k:Aw 3 w u (Xh m)):Calls Tryz.prog 362 #[v,u] w (Fz w (.bool (eqB l m))):=by
 obtain⟨a,c,rfl,hc,hm,ha⟩:=h.recs (f:=Bz.ints) (fun _=>rfl) dC
 obtain⟨b,d,rfl,hd,hn,hb⟩:=k.recs (f:=Bz.ints) (fun _=>rfl) dC
 have HA:=Lib.hid ha;have HB:=Lib.hid hb
 clear ha hb h k
 unfold maxLen at hm hn
 by_cases hl:l.length=m.length
 rotate_left
 .
  have hD:eqB l m=false:=Cd (fun e=>hl (by rw[e]))
  have hb1:((l.length:Int) == (m.length:Int))=false:=by simp;omega
  have hb2:decide ((l.length:Int)=(m.length:Int))=false:=by simp;omega
  have hb3:decide (l.length=m.length)=false:=by simpa using hl
  have HD:=Lib.hid hD
  clear hl hD
  go_enter Tryz.func362,Tryz.ntmps362
  go_wp2
  go_ret
  exact⟨by rw[HD.out];try rfl,by exact Ag⟩
 obtain⟨N,hN⟩:∃N,N=m.length:=⟨_,rfl⟩
 rw[<-hN] at hl HB hd ⊢
 rw[hl] at HA hc ⊢
 have HL:=Lib.hid hl;have HN:=Lib.hid hN
 clear hl hN
 go_enter Tryz.func362,Tryz.ntmps362
 go_wp2_with fail
 go_loopw [13] (fun i wr=>∃k:Nat,k<=N/\i=.int .i64 k/\Ext w wr/\Hid (l.take k=m.take k)) (fun i _=>N - (intOf i).toNat)
 case atStart=>exact⟨0,Nat.zero_le _,rfl,Ext.refl _,Lib.hid (by simp)⟩
 case round =>
  obtain⟨k,hk,rfl,he,ht⟩:=hrel
  by_cases hlt:k<N
  .
   obtain⟨x,b1,o1,hx,rfl,hb1,c1⟩:=HA.out k hlt
   obtain⟨y,b2,o2,hy,rfl,hb2,c2⟩:=HB.out k hlt
   obtain⟨x0,x1,x2⟩:=x
   obtain⟨y0,y1,y2⟩:=y
   have d0:=he.cell (c1 0 _ dC rfl);have e0:=he.cell (c2 0 _ dC rfl)
   have d1:=he.cell (c1 1 _ dC rfl);have e1:=he.cell (c2 1 _ dC rfl)
   have d2:=he.cell (c1 2 _ dC rfl);have e2:=he.cell (c2 2 _ dC rfl)
   simp only[Nat.add_zero] at d0 e0
   have HX:=Lib.hid hx;have HY:=Lib.hid hy
   clear hx hy c1 c2
   by_cases hne:x0=y0
   rotate_left
   .
    have b1:(x0 == y0)=false:=by simpa using hne
    have b2:decide (x0=y0)=false:=by simpa using hne
    have hD:eqB l m=false:=Cd (fun e=>by
     have h1:=HX.out;have h2:=HY.out
     rw[e,h2] at h1
     injection h1 with h1
     simp at h1
     omega)
    have HD:=Lib.hid hD
    clear hD hne
    go_wp2_with fail
    go_quiet (fail)
    go_wp2_with fail
    go_ret
    exact⟨by rw[HD.out];try rfl,by exact Ag⟩
   subst hne
   by_cases hne:x1=y1
   rotate_left
   .
    have b1:(x1 == y1)=false:=by simpa using hne
    have b2:decide (x1=y1)=false:=by simpa using hne
    have hD:eqB l m=false:=Cd (fun e=>by
     have h1:=HX.out;have h2:=HY.out
     rw[e,h2] at h1
     injection h1 with h1
     simp at h1
     omega)
    have HD:=Lib.hid hD
    clear hD hne
    go_wp2_with fail
    go_quiet (fail)
    go_wp2_with fail
    go_ret
    exact⟨by rw[HD.out];try rfl,by exact Ag⟩
   subst hne
   by_cases hne:x2=y2
   rotate_left
   .
    have b1:(x2 == y2)=false:=by simpa using hne
    have b2:decide (x2=y2)=false:=by simpa using hne
    have hD:eqB l m=false:=Cd (fun e=>by
     have h1:=HX.out;have h2:=HY.out
     rw[e,h2] at h1
     injection h1 with h1
     simp at h1
     omega)
    have HD:=Lib.hid hD
    clear hD hne
    go_wp2_with fail
    go_quiet (fail)
    go_wp2_with fail
    go_ret
    exact⟨by rw[HD.out];try rfl,by exact Ag⟩
   subst hne
   go_wp2_with fail
   go_quiet (fail)
   go_wp2_with fail
   go_roundw
   case rel=>exact⟨k+1,by omega,by go_num,by exact Ag,Lib.hid (GQ HX.out HY.out ht.out)⟩
   case measure=>simp[intOf];omega
  obtain rfl:k=N:=by omega
  have hD:eqB l m=true:=by
   have h1:=ht.out
   rw[List.take_of_length_le (by rw[HL.out];omega),List.take_of_length_le (by rw[<-HN.out];omega)] at h1
   exact CS h1
  have HD:=Lib.hid hD
  clear hD
  go_wp2_with fail
  go_ret
  exact⟨by rw[HD.out];try rfl,by exact Ag⟩
theorem QH(w:World)(v u:Value)(l m:List Bz)(h:Aw 3 w v (Xh l))(k:Aw 3 w u (Xh m)):Calls Tryz.prog 308 #[v,u] w (Fz w (.bool (eqB l m))):=by
 obtain⟨a,c,rfl,hc,hm,ha⟩:=h.recs (f:=Bz.ints) (fun _=>rfl) dC
 obtain⟨b,d,rfl,hd,hn,hb⟩:=k.recs (f:=Bz.ints) (fun _=>rfl) dC
 have HA:=Lib.hid ha;have HB:=Lib.hid hb
 clear ha hb h k
 unfold maxLen at hm hn
 by_cases hl:l.length=m.length
 rotate_left
 .
  have hD:eqB l m=false:=Cd (fun e=>hl (by rw[e]))
  have hb1:((l.length:Int) == (m.length:Int))=false:=by simp;omega
  have hb2:decide ((l.length:Int)=(m.length:Int))=false:=by simp;omega
  have hb3:decide (l.length=m.length)=false:=by simpa using hl
  have HD:=Lib.hid hD
  clear hl hD
  go_enter Tryz.func308,Tryz.ntmps308
  go_wp2
  go_ret
  exact⟨by rw[HD.out];try rfl,by exact Ag⟩
 obtain⟨N,hN⟩:∃N,N=m.length:=⟨_,rfl⟩
 rw[<-hN] at hl HB hd ⊢
 rw[hl] at HA hc ⊢
 have HL:=Lib.hid hl;have HN:=Lib.hid hN
 clear hl hN
 go_enter Tryz.func308,Tryz.ntmps308
 go_wp2_with fail
 go_loopw [5] (fun i wr=>∃k:Nat,k<=N/\i=.int .i64 k/\Ext w wr/\Hid (l.take k=m.take k)) (fun i _=>N - (intOf i).toNat)
 case atStart=>exact⟨0,Nat.zero_le _,rfl,Ext.refl _,Lib.hid (by simp)⟩
 case round =>
  obtain⟨k,hk,rfl,he,ht⟩:=hrel
  by_cases hlt:k<N
  .
   obtain⟨x,b1,o1,hx,rfl,hb1,c1⟩:=HA.out k hlt
   obtain⟨y,b2,o2,hy,rfl,hb2,c2⟩:=HB.out k hlt
   obtain⟨x0,x1,x2⟩:=x
   obtain⟨y0,y1,y2⟩:=y
   have d0:=he.cell (c1 0 _ dC rfl);have e0:=he.cell (c2 0 _ dC rfl)
   have d1:=he.cell (c1 1 _ dC rfl);have e1:=he.cell (c2 1 _ dC rfl)
   have d2:=he.cell (c1 2 _ dC rfl);have e2:=he.cell (c2 2 _ dC rfl)
   simp only[Nat.add_zero] at d0 e0
   have HX:=Lib.hid hx;have HY:=Lib.hid hy
   clear hx hy c1 c2
   by_cases hne:x0=y0
   rotate_left
   .
    have b1:(x0 == y0)=false:=by simpa using hne
    have b2:decide (x0=y0)=false:=by simpa using hne
    have hD:eqB l m=false:=Cd (fun e=>by
     have h1:=HX.out;have h2:=HY.out
     rw[e,h2] at h1
     injection h1 with h1
     simp at h1
     omega)
    have HD:=Lib.hid hD
    clear hD hne
    go_wp2_with fail
    go_quiet (fail)
    go_wp2_with fail
    go_ret
    exact⟨by rw[HD.out];try rfl,by exact Ag⟩
   subst hne
   by_cases hne:x1=y1
   rotate_left
   .
    have b1:(x1 == y1)=false:=by simpa using hne
    have b2:decide (x1=y1)=false:=by simpa using hne
    have hD:eqB l m=false:=Cd (fun e=>by
     have h1:=HX.out;have h2:=HY.out
     rw[e,h2] at h1
     injection h1 with h1
     simp at h1
     omega)
    have HD:=Lib.hid hD
    clear hD hne
    go_wp2_with fail
    go_quiet (fail)
    go_wp2_with fail
    go_ret
    exact⟨by rw[HD.out];try rfl,by exact Ag⟩
   subst hne
   by_cases hne:x2=y2
   rotate_left
   .
    have b1:(x2 == y2)=false:=by simpa using hne
    have b2:decide (x2=y2)=false:=by simpa using hne
    have hD:eqB l m=false:=Cd (fun e=>by
     have h1:=HX.out;have h2:=HY.out
     rw[e,h2] at h1
     injection h1 with h1
     simp at h1
     omega)
    have HD:=Lib.hid hD
    clear hD hne
    go_wp2_with fail
    go_quiet (fail)
    go_wp2_with fail
    go_ret
    exact⟨by rw[HD.out];try rfl,by exact Ag⟩
   subst hne
   go_wp2_with fail
   go_quiet (fail)
   go_wp2_with fail
   go_roundw
   case rel=>exact⟨k+1,by omega,by go_num,by exact Ag,Lib.hid (GQ HX.out HY.out ht.out)⟩
   case measure=>simp[intOf];omega
  obtain rfl:k=N:=by omega
  have hD:eqB l m=true:=by
   have h1:=ht.out
   rw[List.take_of_length_le (by rw[HL.out];omega),List.take_of_length_le (by rw[<-HN.out];omega)] at h1
   exact CS h1
  have HD:=Lib.hid hD
  clear hD
  go_wp2_with fail
  go_ret
  exact⟨by rw[HD.out];try rfl,by exact Ag⟩
theorem PM(w:World)(v u:Value)(l m:List Bz)(h:Aw 3 w v (Xh l))(k:Aw 3 w u (Xh m)):Calls Tryz.prog 283 #[v,u] w (Fz w (.bool (eqB l m))):=by
 go_enter Tryz.func283,Tryz.ntmps283
 go_wp2_with fail
 refine(bK0 _ v u l m h k).mono ?_
 rintro e w1⟨rfl,hx1⟩
 go_wp2_with fail
 go_ret
 exact⟨rfl,hx1⟩
theorem VO(w:World)(Ay:Int)(Ce:Int)(Uu:Int)(GH:Value)(Fc:List Bz)(AL:Int)(MF:Int)(PR:Int)(bZ9:Value)(SL:List Bz)(DN:Aw 3 w GH (Xh Fc))(cA0:Aw 3 w bZ9 (Xh SL)):Calls Tryz.prog 289 #[.agg #[.int .i64 Ay,.int .i64 Ce,.int .i64 Uu,GH],.agg #[.int .i64 AL,.int .i64 MF,.int .i64 PR,bZ9]] w (Fz w (.bool (eqB (⟨Ay,Ce,Uu,Fc⟩:wG) (⟨AL,MF,PR,SL⟩:wG)))):=by
 obtain⟨a3,n3,k3,rfl⟩:=DN.shape
 obtain⟨a4,n4,k4,rfl⟩:=cA0.shape
 go_enter Tryz.func289,Tryz.ntmps289
 by_cases hne:Ay=AL
 rotate_left
 .
  have b1:(Ay == AL)=false:=by simpa using hne
  have b2:decide (Ay=AL)=false:=by simpa using hne
  have HD:=Lib.hid (show eqB (⟨Ay,Ce,Uu,Fc⟩:wG) (⟨AL,MF,PR,SL⟩:wG)=false from Cd (fun e=>by injection e;exact hne (by assumption)))
  clear hne
  go_wp2_with fail
  go_ret
  exact⟨by rw[HD.out];try rfl,by exact Ag⟩
 subst hne
 by_cases hne:Ce=MF
 rotate_left
 .
  have b1:(Ce == MF)=false:=by simpa using hne
  have b2:decide (Ce=MF)=false:=by simpa using hne
  have HD:=Lib.hid (show eqB (⟨Ay,Ce,Uu,Fc⟩:wG) (⟨Ay,MF,PR,SL⟩:wG)=false from Cd (fun e=>by injection e;exact hne (by assumption)))
  clear hne
  go_wp2_with fail
  go_ret
  exact⟨by rw[HD.out];try rfl,by exact Ag⟩
 subst hne
 by_cases hne:Uu=PR
 rotate_left
 .
  have b1:(Uu == PR)=false:=by simpa using hne
  have b2:decide (Uu=PR)=false:=by simpa using hne
  have HD:=Lib.hid (show eqB (⟨Ay,Ce,Uu,Fc⟩:wG) (⟨Ay,Ce,PR,SL⟩:wG)=false from Cd (fun e=>by injection e;exact hne (by assumption)))
  clear hne
  go_wp2_with fail
  go_ret
  exact⟨by rw[HD.out];try rfl,by exact Ag⟩
 subst hne
 have hD:eqB (⟨Ay,Ce,Uu,Fc⟩:wG) ⟨Ay,Ce,Uu,SL⟩=eqB Fc SL:=by
  by_cases h:Fc=SL
  .
   rw[h,CS rfl,CS rfl]
  rw[Cd h,Cd (fun e=>h (by injection e))]
 have HD:=Lib.hid hD
 clear hD
 go_wp2_with (first|(go_at_call 283;refine(PM _ _ _ Fc SL (DN.ext Ag) (cA0.ext Ag)).mono ?_;rintro e9 w9 ⟨rfl,hx9⟩))
 go_ret
 exact⟨by rw[HD.out];try rfl,by exact Ag⟩
theorem VA(w:World)(Ay:Int)(Ce:Int)(Uu:Int)(GH:Value)(Fc:List Bz)(AL:Int)(MF:Int)(PR:Int)(bZ9:Value)(SL:List Bz)(DN:Aw 3 w GH (Xh Fc))(cA0:Aw 3 w bZ9 (Xh SL)):Calls Tryz.prog 311 #[.agg #[.int .i64 Ay,.int .i64 Ce,.int .i64 Uu,GH],.agg #[.int .i64 AL,.int .i64 MF,.int .i64 PR,bZ9]] w (Fz w (.bool (eqB (⟨Ay,Ce,Uu,Fc⟩:wG) (⟨AL,MF,PR,SL⟩:wG)))):=by
 obtain⟨a3,n3,k3,rfl⟩:=DN.shape
 obtain⟨a4,n4,k4,rfl⟩:=cA0.shape
 go_enter Tryz.func311,Tryz.ntmps311
 by_cases hne:Ay=AL
 rotate_left
 .
  have b1:(Ay == AL)=false:=by simpa using hne
  have b2:decide (Ay=AL)=false:=by simpa using hne
  have HD:=Lib.hid (show eqB (⟨Ay,Ce,Uu,Fc⟩:wG) (⟨AL,MF,PR,SL⟩:wG)=false from Cd (fun e=>by injection e;exact hne (by assumption)))
  clear hne
  go_wp2_with fail
  go_ret
  exact⟨by rw[HD.out];try rfl,by exact Ag⟩
 subst hne
 by_cases hne:Ce=MF
 rotate_left
 .
  have b1:(Ce == MF)=false:=by simpa using hne
  have b2:decide (Ce=MF)=false:=by simpa using hne
  have HD:=Lib.hid (show eqB (⟨Ay,Ce,Uu,Fc⟩:wG) (⟨Ay,MF,PR,SL⟩:wG)=false from Cd (fun e=>by injection e;exact hne (by assumption)))
  clear hne
  go_wp2_with fail
  go_ret
  exact⟨by rw[HD.out];try rfl,by exact Ag⟩
 subst hne
 by_cases hne:Uu=PR
 rotate_left
 .
  have b1:(Uu == PR)=false:=by simpa using hne
  have b2:decide (Uu=PR)=false:=by simpa using hne
  have HD:=Lib.hid (show eqB (⟨Ay,Ce,Uu,Fc⟩:wG) (⟨Ay,Ce,PR,SL⟩:wG)=false from Cd (fun e=>by injection e;exact hne (by assumption)))
  clear hne
  go_wp2_with fail
  go_ret
  exact⟨by rw[HD.out];try rfl,by exact Ag⟩
 subst hne
 have hD:eqB (⟨Ay,Ce,Uu,Fc⟩:wG) ⟨Ay,Ce,Uu,SL⟩=eqB Fc SL:=by
  by_cases h:Fc=SL
  .
   rw[h,CS rfl,CS rfl]
  rw[Cd h,Cd (fun e=>h (by injection e))]
 have HD:=Lib.hid hD
 clear hD
 go_wp2_with (first|(go_at_call 308;refine(QH _ _ _ Fc SL (DN.ext Ag) (cA0.ext Ag)).mono ?_;rintro e9 w9 ⟨rfl,hx9⟩))
 go_ret
 exact⟨by rw[HD.out];try rfl,by exact Ag⟩
theorem cK7{p:Prop}(h:p:=by intro KQ hKQ;(repeat (first|go_big_quiet_skip|(go_big_quiet_want;first|(refine Hn _ _ _ ?_ rfl rfl (fun wq hq=>?_) ?_;rotate_left;(focus((try have y0:=hq.cell I0);(try have y1:=hq.cell I1);(try have y2:=hq.cell I2);(try have y3:=hq.cell I3);go_simp;first|done|rfl));(try simp only[Ak,Act.put]);go_big_quiet_on)|(go_big_quiet_op;first|go_big_quiet_on|(refine⟨_,fun _ _=>rfl,?_⟩;go_big_quiet_on)|(apply Exists.intro;refine⟨fun wq hq=>?_,?_⟩;(focus(first|(go_at_call_of 176 (Value.int .i64 2000);exact Ma hq (by have c:=Og wq Ce 0 2000;rw[p1] at c;exact c))));go_big_quiet_on)))));exact wpQuiet_nil hKQ):p:=h
theorem cK8{p:Prop}(h:p:=by intro KQ hKQ;(repeat (first|go_big_quiet_skip|(go_big_quiet_want;first|(refine Hn _ _ _ ?_ rfl rfl (fun wq hq=>?_) ?_;rotate_left;(focus((try have y0:=hq.cell I0);(try have y1:=hq.cell I1);(try have y2:=hq.cell I2);(try have y3:=hq.cell I3);go_simp;first|done|rfl));(try simp only[Ak,Act.put]);go_big_quiet_on)|(go_big_quiet_op;first|go_big_quiet_on|(refine⟨_,fun _ _=>rfl,?_⟩;go_big_quiet_on)|(apply Exists.intro;refine⟨fun wq hq=>?_,?_⟩;(focus(first|(go_at_call_of 176 (Value.int .i64 2000);exact Ma hq (by have c:=Og wq Ce 0 2000;rw[p1] at c;exact c))|(go_at_call_of 176 (Value.int .i64 Ay);exact Ma hq (by have c:=Og wq Ay 0 Ce;rw[p2] at c;exact c))));go_big_quiet_on)))));exact wpQuiet_nil hKQ):p:=h
theorem bU8{p:Prop}(h:p:=by intro KQ hKQ;(repeat (first|go_big_quiet_skip|(go_big_quiet_want;first|(refine Hn _ _ _ ?_ rfl rfl (fun wq hq=>?_) ?_;rotate_left;(focus((try have y0:=hq.cell I0);(try have y1:=hq.cell I1);(try have y2:=hq.cell I2);(try have y3:=hq.cell I3);go_simp;first|done|rfl));(try simp only[Ak,Act.put]);go_big_quiet_on)|(go_big_quiet_op;first|go_big_quiet_on|(refine⟨_,fun _ _=>rfl,?_⟩;go_big_quiet_on)|(apply Exists.intro;refine⟨fun wq hq=>?_,?_⟩;(focus(first|(go_at_call_of 176 (Value.int .i64 2000);exact Ma hq (by have c:=Og wq Ce 0 2000;rw[p1] at c;exact c))|(go_at_call_of 176 (Value.int .i64 Ay);exact Ma hq (by have c:=Og wq Ay 0 Ce;rw[p2] at c;exact c))|(go_at_call 177;exact Ma hq (by have c:=AT wq Uu;rw[p3] at c;exact c))));go_big_quiet_on)))));exact wpQuiet_nil hKQ):p:=h
theorem bU9{p:Prop}(h:p:=by intro KQ hKQ;(repeat (first|go_big_quiet_skip|(go_big_quiet_want;first|(refine Hn _ _ _ ?_ rfl rfl (fun wq hq=>?_) ?_;rotate_left;(focus((try have y0:=hq.cell I0);(try have y1:=hq.cell I1);(try have y2:=hq.cell I2);(try have y3:=hq.cell I3);go_simp;first|done|rfl));(try simp only[Ak,Act.put]);go_big_quiet_on)|(go_big_quiet_op;first|go_big_quiet_on|(refine⟨_,fun _ _=>rfl,?_⟩;go_big_quiet_on)|(apply Exists.intro;refine⟨fun wq hq=>?_,?_⟩;(focus(first|(go_at_call_of 176 (Value.int .i64 2000);exact Ma hq (by have c:=Og wq Ce 0 2000;rw[p1] at c;exact c))|(go_at_call_of 176 (Value.int .i64 Ay);exact Ma hq (by have c:=Og wq Ay 0 Ce;rw[p2] at c;exact c))|(go_at_call 177;exact Ma hq (by have c:=AT wq Uu;rw[p3] at c;exact c))|(go_at_call 357;exact Tu hq (by have c:=aA8 wq _ Fc (DN.ext (hEw.trans hq));rw[p5] at c;exact c))));go_big_quiet_on)))));exact wpQuiet_nil hKQ):p:=h
theorem bV0{p:Prop}(h:p:=by intro KQ hKQ;(repeat (first|go_big_quiet_skip|(go_big_quiet_want;first|(refine Hn _ _ _ ?_ rfl rfl (fun wq hq=>?_) ?_;rotate_left;(focus((try have y0:=hq.cell I0);(try have y1:=hq.cell I1);(try have y2:=hq.cell I2);(try have y3:=hq.cell I3);go_simp;first|done|rfl));(try simp only[Ak,Act.put]);go_big_quiet_on)|(go_big_quiet_op;first|go_big_quiet_on|(refine⟨_,fun _ _=>rfl,?_⟩;go_big_quiet_on)|(apply Exists.intro;refine⟨fun wq hq=>?_,?_⟩;(focus(first|(go_at_call_of 176 (Value.int .i64 2000);exact Ma hq (by have c:=Og wq Ce 0 2000;rw[p1] at c;exact c))|(go_at_call_of 176 (Value.int .i64 Ay);exact Ma hq (by have c:=Og wq Ay 0 Ce;rw[p2] at c;exact c))|(go_at_call 177;exact Ma hq (by have c:=AT wq Uu;rw[p3] at c;exact c))|(go_at_call 357;exact Tu hq (by have c:=aA8 wq _ Fc (DN.ext (hEw.trans hq));rw[p5] at c;exact c))|(go_at_call 358;exact Tu hq (aA9 wq _ Fc (DN.ext (hEw.trans hq))))));go_big_quiet_on)))));exact wpQuiet_nil hKQ):p:=h
theorem LQ(w:World)(Ay:Int)(Ce:Int)(Uu:Int)(GH:Value)(Fc:List Bz)(DN:Aw 3 w GH (Xh Fc)):Calls Tryz.prog 280 #[.agg #[.int .i64 Ay,.int .i64 Ce,.int .i64 Uu,GH]] w (Fz w (.bool (AK (⟨Ay,Ce,Uu,Fc⟩:wG)))):=by
 obtain⟨a3,n3,k3,rfl⟩:=DN.shape
 obtain⟨W0,hW0⟩:∃W0,W0=w.alloc (.cells #[.int .i64 Ay,.int .i64 Ce,.int .i64 Uu,.slice a3 n3 k3] 75):=⟨_,rfl⟩
 have hEw:Ext w W0:=by rw[hW0];exact(Ext.refl _).alloc _
 have KX:Blk W0 w.heap.size 75 #[.int .i64 Ay,.int .i64 Ce,.int .i64 Uu,.slice a3 n3 k3]:=by rw[hW0];exact Blk.new _ _ _
 have hLX:=KX.lt
 have I0:=KX.cell 0;have I1:=KX.cell 1;have I2:=KX.cell 2;have I3:=KX.cell 3
 simp only[List.getElem?_toArray,List.getElem?_cons_zero,List.getElem?_cons_succ] at I0 I1 I2 I3
 go_enter Tryz.func280,Tryz.ntmps280
 go_upto_region 1 with(fail)
 rw[<-hW0]
 clear hW0 KX
 cases p1:inb Ce 0 2000
 .
  refine rx0 cK7 fun w1 hx1=>?_
  go_wp2_with fail
  go_ret
  exact⟨by rw[show AK (⟨Ay,Ce,Uu,Fc⟩:wG)=false from by simp[AK,p1]];try rfl,by exact Ag⟩
 cases p2:inb Ay 0 Ce
 .
  refine rx0 cK8 fun w1 hx1=>?_
  go_wp2_with fail
  go_ret
  exact⟨by rw[show AK (⟨Ay,Ce,Uu,Fc⟩:wG)=false from by simp[AK,p2]];try rfl,by exact Ag⟩
 cases p3:wZ Uu
 .
  refine rx0 bU8 fun w1 hx1=>?_
  go_wp2_with fail
  go_ret
  exact⟨by rw[show AK (⟨Ay,Ce,Uu,Fc⟩:wG)=false from by simp[AK,p3]];try rfl,by exact Ag⟩
 by_cases hb:0<Ce
 .
  have hb1:decide (0<Ce)=true:=by simpa using hb
  cases p5:GT Fc
  .
   refine rx0 bU9 fun w1 hx1=>?_
   go_wp2_with fail
   go_ret
   exact⟨by rw[show AK (⟨Ay,Ce,Uu,Fc⟩:wG)=false from by simp[AK,p5]];try rfl,by exact Ag⟩
  refine rx0 bV0 fun w1 hx1=>?_
  go_wp2_with fail
  go_ret
  exact⟨by rw[show AK (⟨Ay,Ce,Uu,Fc⟩:wG)=decide (AB Fc=Ce) from by simp[AK,p1,p2,p3,p5,hb]];first|rfl|(simp[bq];done),by exact Ag⟩
 have hb1:decide (0<Ce)=false:=by simpa using hb
 by_cases hz:Uu=0
 rotate_left
 .
  have hz1:(Uu == 0)=false:=by simpa using hz
  have HZ:=Lib.hid hz
  clear hz
  refine rx0 bU8 fun w1 hx1=>?_
  go_wp2_with fail
  go_ret
  exact⟨by rw[show AK (⟨Ay,Ce,Uu,Fc⟩:wG)=false from by simp only[AK];rw[hb1];simp[HZ.out]];try rfl,by exact Ag⟩
 have hz1:(Uu == 0)=true:=by simpa using hz
 have HZ:=Lib.hid hz
 clear hz
 cases p5:GT Fc
 .
  refine rx0 bU9 fun w1 hx1=>?_
  go_wp2_with fail
  go_ret
  exact⟨by rw[show AK (⟨Ay,Ce,Uu,Fc⟩:wG)=false from by simp[AK,p5]];try rfl,by exact Ag⟩
 refine rx0 bV0 fun w1 hx1=>?_
 go_wp2_with fail
 go_ret
 exact⟨by rw[show AK (⟨Ay,Ce,Uu,Fc⟩:wG)=decide (AB Fc=Ce) from by simp only[AK];rw[p1,p2,p3,p5];simp[HZ.out]];first|rfl|(simp[bq];done),by exact Ag⟩
theorem aK9(w:World)(d:Bj):Calls Tryz.prog 366 #[.agg #[.int .i64 d.Index,.int .i64 d.Time,.int .i64 d.Client,.int .i64 d.Seq,.int .i64 d.Op.Kind,.int .i64 d.Op.A,.int .i64 d.Op.B,.int .i64 d.Op.C,.int .i64 d.Op.D]] w (Fz w (.agg #[.int .i64 (JU d).Client,.int .i64 (JU d).Seq,.int .i64 (JU d).Index,.int .i64 (JU d).Last])):=by
 obtain⟨W0,hW0⟩:∃W0,W0=(w.alloc (.cells #[.int .i64 d.Index,.int .i64 d.Time,.int .i64 d.Client,.int .i64 d.Seq,.int .i64 d.Op.Kind,.int .i64 d.Op.A,.int .i64 d.Op.B,.int .i64 d.Op.C,.int .i64 d.Op.D] 281)).alloc (.cells #[.int .i64 0,.int .i64 0,.int .i64 0,.int .i64 0] 284):=⟨_,rfl⟩
 have hE0:Ext w W0:=by rw[hW0];exact((Ext.refl _).alloc _).alloc _
 have K0:Blk W0 w.heap.size 281 #[.int .i64 d.Index,.int .i64 d.Time,.int .i64 d.Client,.int .i64 d.Seq,.int .i64 d.Op.Kind,.int .i64 d.Op.A,.int .i64 d.Op.B,.int .i64 d.Op.C,.int .i64 d.Op.D]:=by rw[hW0];exact(Blk.new _ _ _).alloc _
 have K1:Blk W0 (w.heap.size+1) 284 #[.int .i64 0,.int .i64 0,.int .i64 0,.int .i64 0]:=by rw[hW0];exact Blk.new2 _ _ _ _
 go_enter Tryz.func366,Tryz.ntmps366
 go_upto_region 1 with(fail)
 rw[<-hW0]
 clear hW0
 have C0:=K0.cell;have F0:=K0.frozen;have L0:=K0.lt;have C1:=K1.cell;have F1:=K1.frozen;have L1:=K1.lt
 go_wp2_with fail
 refine(NG _ d.Index d.Time d.Client d.Seq d.Op.Kind d.Op.A d.Op.B d.Op.C d.Op.D).mono ?_
 rintro e9 w1⟨rfl,hx1⟩
 have K0:=K0.ext hx1;have K1:=K1.ext hx1
 clear C0 F0 L0 C1 F1 L1
 have C0:=K0.cell;have F0:=K0.frozen;have L0:=K0.lt;have C1:=K1.cell;have F1:=K1.frozen;have L1:=K1.lt
 cases hb:wN d
 all_goals
  try rw[show wN (⟨d.Index,d.Time,d.Client,d.Seq,⟨d.Op.Kind,d.Op.A,d.Op.B,d.Op.C,d.Op.D⟩⟩:Bj)=_ from hb]
  go_wp2_with fail
  refine bodyPost_ret (by simp[results,Tryz.results366,go_sem,C0,F0,L0,C1,F1,L1];try rfl) rfl ?_
  exact⟨by rw[JU,hb];rfl,by exact Ag⟩
theorem bV1(w:World)(d:Bj):Calls Tryz.prog 381 #[.agg #[.int .i64 d.Index,.int .i64 d.Time,.int .i64 d.Client,.int .i64 d.Seq,.int .i64 d.Op.Kind,.int .i64 d.Op.A,.int .i64 d.Op.B,.int .i64 d.Op.C,.int .i64 d.Op.D]] w (Fz w (.agg #[.int .i64 (JU d).Client,.int .i64 (JU d).Seq,.int .i64 (JU d).Index,.int .i64 (JU d).Last])):=by
 obtain⟨W0,hW0⟩:∃W0,W0=(w.alloc (.cells #[.int .i64 d.Index,.int .i64 d.Time,.int .i64 d.Client,.int .i64 d.Seq,.int .i64 d.Op.Kind,.int .i64 d.Op.A,.int .i64 d.Op.B,.int .i64 d.Op.C,.int .i64 d.Op.D] 281)).alloc (.cells #[.int .i64 0,.int .i64 0,.int .i64 0,.int .i64 0] 284):=⟨_,rfl⟩
 have hE0:Ext w W0:=by rw[hW0];exact((Ext.refl _).alloc _).alloc _
 have K0:Blk W0 w.heap.size 281 #[.int .i64 d.Index,.int .i64 d.Time,.int .i64 d.Client,.int .i64 d.Seq,.int .i64 d.Op.Kind,.int .i64 d.Op.A,.int .i64 d.Op.B,.int .i64 d.Op.C,.int .i64 d.Op.D]:=by rw[hW0];exact(Blk.new _ _ _).alloc _
 have K1:Blk W0 (w.heap.size+1) 284 #[.int .i64 0,.int .i64 0,.int .i64 0,.int .i64 0]:=by rw[hW0];exact Blk.new2 _ _ _ _
 go_enter Tryz.func381,Tryz.ntmps381
 go_upto_region 1 with(fail)
 rw[<-hW0]
 clear hW0
 have C0:=K0.cell;have F0:=K0.frozen;have L0:=K0.lt;have C1:=K1.cell;have F1:=K1.frozen;have L1:=K1.lt
 go_wp2_with fail
 refine(NF _ d.Index d.Time d.Client d.Seq d.Op.Kind d.Op.A d.Op.B d.Op.C d.Op.D).mono ?_
 rintro e9 w1⟨rfl,hx1⟩
 have K0:=K0.ext hx1;have K1:=K1.ext hx1
 clear C0 F0 L0 C1 F1 L1
 have C0:=K0.cell;have F0:=K0.frozen;have L0:=K0.lt;have C1:=K1.cell;have F1:=K1.frozen;have L1:=K1.lt
 cases hb:wN d
 all_goals
  try rw[show wN (⟨d.Index,d.Time,d.Client,d.Seq,⟨d.Op.Kind,d.Op.A,d.Op.B,d.Op.C,d.Op.D⟩⟩:Bj)=_ from hb]
  go_wp2_with fail
  refine bodyPost_ret (by simp[results,Tryz.results381,go_sem,C0,F0,L0,C1,F1,L1];try rfl) rfl ?_
  exact⟨by rw[JU,hb];rfl,by exact Ag⟩
theorem bB7(w:World)(AU:Value)(Bl:List (List Int))(DL:Value)(Cq:List AG)(CV:Value)(Be:List (List Int))(GH:Value)(Fc:List AG)(AW:Ll 0 w AU (Bd Bl))(CH:Ll 1 w DL (Dq Cq))(zX:Ll 0 w CV (Bd Be))(DN:Ll 1 w GH (Dq Fc)):Calls Tryz.prog 183 #[.agg #[AU,DL,CV,GH]] w (Fz w (.bool (NR (⟨⟨Bl,Cq⟩,⟨Be,Fc⟩⟩:MV)))):=by
 obtain⟨a0,cap0,rfl,hc0,hm0,-⟩:=Ll.rows AW
 obtain⟨a1,n1,k1,rfl⟩:=CH.shape
 obtain⟨a2,cap2,rfl,hc2,hm2,-⟩:=Ll.rows zX
 obtain⟨a3,n3,k3,rfl⟩:=DN.shape
 unfold maxLen at hm0 hm2
 obtain⟨W0,hW0⟩:∃W0,W0=w.alloc (.cells #[.slice a0 Bl.length cap0,.slice a1 n1 k1,.slice a2 Be.length cap2,.slice a3 n3 k3] 72):=⟨_,rfl⟩
 have hEw:Ext w W0:=by rw[hW0];exact(Ext.refl _).alloc _
 have KX:Blk W0 w.heap.size 72 #[.slice a0 Bl.length cap0,.slice a1 n1 k1,.slice a2 Be.length cap2,.slice a3 n3 k3]:=by rw[hW0];exact Blk.new _ _ _
 have hLX:=KX.lt
 go_enter Tryz.func183,Tryz.ntmps183
 go_upto_region 1 with(fail)
 rw[<-hW0]
 clear hW0
 have CX:=KX.cell
 go_wp2_with (first|(go_at_call_of 186 (Value.agg #[.slice a0 Bl.length cap0,.slice a1 n1 k1]);refine(VY _ (.slice a0 Bl.length cap0) _ (.slice a1 n1 k1) _ (AW.ext Ag) (CH.ext Ag)).mono ?_;rintro e9 wa ⟨rfl,hxa⟩;have Ka:=KX.ext hxa;have Ca:=Ka.cell;have La:=Ka.lt)|(go_at_call_of 186 (Value.agg #[.slice a2 Be.length cap2,.slice a3 n3 k3]);refine(VY _ (.slice a2 Be.length cap2) _ (.slice a3 n3 k3) _ (zX.ext Ag) (DN.ext Ag)).mono ?_;rintro e9 wb ⟨rfl,hxb⟩;have Kb:=Ka.ext hxb;have Cb:=Kb.cell;have Lb:=Kb.lt))
 all_goals
  go_ret
  exact⟨by first|rfl|(simp[NR, *];done)|(simp_all [NR,bq,bn];done)|(simp_all [NR,bq,bn];omega),by exact Ag⟩
theorem QY(w:World)(AU:Value)(Bl:List (List Int))(DL:Value)(Cq:List AG)(CV:Value)(Be:List (List Int))(GH:Value)(Fc:List AG)(AW:Ll 0 w AU (Bd Bl))(CH:Ll 1 w DL (Dq Cq))(zX:Ll 0 w CV (Bd Be))(DN:Ll 1 w GH (Dq Fc)):Calls Tryz.prog 279 #[.agg #[AU,DL,CV,GH]] w (Fz w (.bool (PE (⟨⟨Bl,Cq⟩,⟨Be,Fc⟩⟩:MV)))):=by
 obtain⟨a0,cap0,rfl,hc0,hm0,-⟩:=Ll.rows AW
 obtain⟨a1,n1,k1,rfl⟩:=CH.shape
 obtain⟨a2,cap2,rfl,hc2,hm2,-⟩:=Ll.rows zX
 obtain⟨a3,n3,k3,rfl⟩:=DN.shape
 unfold maxLen at hm0 hm2
 obtain⟨W0,hW0⟩:∃W0,W0=w.alloc (.cells #[.slice a0 Bl.length cap0,.slice a1 n1 k1,.slice a2 Be.length cap2,.slice a3 n3 k3] 72):=⟨_,rfl⟩
 have hEw:Ext w W0:=by rw[hW0];exact(Ext.refl _).alloc _
 have KX:Blk W0 w.heap.size 72 #[.slice a0 Bl.length cap0,.slice a1 n1 k1,.slice a2 Be.length cap2,.slice a3 n3 k3]:=by rw[hW0];exact Blk.new _ _ _
 have hLX:=KX.lt
 go_enter Tryz.func279,Tryz.ntmps279
 go_upto_region 1 with(fail)
 rw[<-hW0]
 clear hW0
 have CX:=KX.cell
 go_wp2_with (first|(go_at_call 183;refine(bB7 _ (.slice a0 Bl.length cap0) _ (.slice a1 n1 k1) _ (.slice a2 Be.length cap2) _ (.slice a3 n3 k3) _ (AW.ext Ag) (CH.ext Ag) (zX.ext Ag) (DN.ext Ag)).mono ?_;rintro e9 wa ⟨rfl,hxa⟩;have Ka:=KX.ext hxa;have Ca:=Ka.cell;have La:=Ka.lt))
 all_goals
  go_ret
  exact⟨by first|rfl|(simp[PE, *];done)|(simp_all [PE,bq,bn];done)|(simp_all [PE,bq,bn];omega),by exact Ag⟩
theorem aQ7(w:World)(AU:Value)(Bl:List (List Int))(DL:Value)(Cq:List AG)(CV:Value)(Be:List (List Int))(GH:Value)(Fc:List AG)(AW:Ll 0 w AU (Bd Bl))(CH:Ll 1 w DL (Dq Cq))(zX:Ll 0 w CV (Bd Be))(DN:Ll 1 w GH (Dq Fc)):Calls Tryz.prog 313 #[.agg #[AU,DL,CV,GH]] w (Fz w (.bool (NR (⟨⟨Bl,Cq⟩,⟨Be,Fc⟩⟩:MV)))):=by
 obtain⟨a0,cap0,rfl,hc0,hm0,-⟩:=Ll.rows AW
 obtain⟨a1,n1,k1,rfl⟩:=CH.shape
 obtain⟨a2,cap2,rfl,hc2,hm2,-⟩:=Ll.rows zX
 obtain⟨a3,n3,k3,rfl⟩:=DN.shape
 unfold maxLen at hm0 hm2
 obtain⟨W0,hW0⟩:∃W0,W0=w.alloc (.cells #[.slice a0 Bl.length cap0,.slice a1 n1 k1,.slice a2 Be.length cap2,.slice a3 n3 k3] 72):=⟨_,rfl⟩
 have hEw:Ext w W0:=by rw[hW0];exact(Ext.refl _).alloc _
 have KX:Blk W0 w.heap.size 72 #[.slice a0 Bl.length cap0,.slice a1 n1 k1,.slice a2 Be.length cap2,.slice a3 n3 k3]:=by rw[hW0];exact Blk.new _ _ _
 have hLX:=KX.lt
 go_enter Tryz.func313,Tryz.ntmps313
 go_upto_region 1 with(fail)
 rw[<-hW0]
 clear hW0
 have CX:=KX.cell
 go_wp2_with (first|(go_at_call_of 317 (Value.agg #[.slice a0 Bl.length cap0,.slice a1 n1 k1]);refine(QT _ (.slice a0 Bl.length cap0) _ (.slice a1 n1 k1) _ (AW.ext Ag) (CH.ext Ag)).mono ?_;rintro e9 wa ⟨rfl,hxa⟩;have Ka:=KX.ext hxa;have Ca:=Ka.cell;have La:=Ka.lt)|(go_at_call_of 317 (Value.agg #[.slice a2 Be.length cap2,.slice a3 n3 k3]);refine(QT _ (.slice a2 Be.length cap2) _ (.slice a3 n3 k3) _ (zX.ext Ag) (DN.ext Ag)).mono ?_;rintro e9 wb ⟨rfl,hxb⟩;have Kb:=Ka.ext hxb;have Cb:=Kb.cell;have Lb:=Kb.lt))
 all_goals
  go_ret
  exact⟨by first|rfl|(simp[NR, *];done)|(simp_all [NR,bq,bn];done)|(simp_all [NR,bq,bn];omega),by exact Ag⟩
theorem OX(w:World)(AU:Value)(Bl:List (List Int))(DL:Value)(Cq:List AG)(CV:Value)(Be:List (List Int))(GH:Value)(Fc:List AG)(AW:Ll 0 w AU (Bd Bl))(CH:Ll 1 w DL (Dq Cq))(zX:Ll 0 w CV (Bd Be))(DN:Ll 1 w GH (Dq Fc)):Calls Tryz.prog 304 #[.agg #[AU,DL,CV,GH]] w (Fz w (.bool (PE (⟨⟨Bl,Cq⟩,⟨Be,Fc⟩⟩:MV)))):=by
 obtain⟨a0,cap0,rfl,hc0,hm0,-⟩:=Ll.rows AW
 obtain⟨a1,n1,k1,rfl⟩:=CH.shape
 obtain⟨a2,cap2,rfl,hc2,hm2,-⟩:=Ll.rows zX
 obtain⟨a3,n3,k3,rfl⟩:=DN.shape
 unfold maxLen at hm0 hm2
 obtain⟨W0,hW0⟩:∃W0,W0=w.alloc (.cells #[.slice a0 Bl.length cap0,.slice a1 n1 k1,.slice a2 Be.length cap2,.slice a3 n3 k3] 72):=⟨_,rfl⟩
 have hEw:Ext w W0:=by rw[hW0];exact(Ext.refl _).alloc _
 have KX:Blk W0 w.heap.size 72 #[.slice a0 Bl.length cap0,.slice a1 n1 k1,.slice a2 Be.length cap2,.slice a3 n3 k3]:=by rw[hW0];exact Blk.new _ _ _
 have hLX:=KX.lt
 go_enter Tryz.func304,Tryz.ntmps304
 go_upto_region 1 with(fail)
 rw[<-hW0]
 clear hW0
 have CX:=KX.cell
 go_wp2_with (first|(go_at_call 313;refine(aQ7 _ (.slice a0 Bl.length cap0) _ (.slice a1 n1 k1) _ (.slice a2 Be.length cap2) _ (.slice a3 n3 k3) _ (AW.ext Ag) (CH.ext Ag) (zX.ext Ag) (DN.ext Ag)).mono ?_;rintro e9 wa ⟨rfl,hxa⟩;have Ka:=KX.ext hxa;have Ca:=Ka.cell;have La:=Ka.lt))
 all_goals
  go_ret
  exact⟨by first|rfl|(simp[PE, *];done)|(simp_all [PE,bq,bn];done)|(simp_all [PE,bq,bn];omega),by exact Ag⟩
theorem UO(w:World)(Ay:Int)(Ce:Int)(CV:Value)(Be:List Bj)(zX:Aw 9 w CV (wM Be)):Calls Tryz.prog 306 #[.agg #[.int .i64 Ay,.int .i64 Ce,CV]] w (Fz w (.bool (AH (⟨Ay,Ce,Be⟩:iY)))):=by
 obtain⟨a2,cap2,rfl,hcap2,hm2,ha2⟩:=zX.recs (f:=Bj.ints) (fun _=>rfl) dC
 have HA:=Lib.hid ha2
 clear ha2
 unfold maxLen at hm2
 obtain⟨W0,hW0⟩:∃W0,W0=w.alloc (.cells #[.int .i64 Ay,.int .i64 Ce,.slice a2 Be.length cap2] 78):=⟨_,rfl⟩
 have hEw:Ext w W0:=by rw[hW0];exact(Ext.refl _).alloc _
 have KX:Blk W0 w.heap.size 78 #[.int .i64 Ay,.int .i64 Ce,.slice a2 Be.length cap2]:=by rw[hW0];exact Blk.new _ _ _
 have hLX:=KX.lt
 have I0:=KX.cell 0;have I1:=KX.cell 1;have I2:=KX.cell 2
 simp only[List.getElem?_toArray,List.getElem?_cons_zero,List.getElem?_cons_succ] at I0 I1 I2
 go_enter Tryz.func306,Tryz.ntmps306
 go_upto_region 1 with(fail)
 rw[<-hW0]
 clear hW0 KX
 cases p1:inb Ay 0 2000
 .
  go_wp2_with (first|(go_at_call 303;refine(wR _ _ _ _).mono ?_;rintro e9 w9 ⟨rfl,rfl⟩;rw[p1])|(go_at_call 207;refine(BK _ _).mono ?_;rintro e9 w9 ⟨rfl,rfl⟩;rw[p2])|(go_at_call 377;refine(FO _ _ Be (zX.ext Ag)).mono ?_;rintro e9 w1 ⟨rfl,hx1⟩;rw[p5];have J0:=hx1.cell I0;have J1:=hx1.cell I1;have J2:=hx1.cell I2;have hLb:w.heap.size<w1.heap.size:=World.block_lt_of_cell? _ _ J0))
  go_ret
  exact⟨by rw[show AH (⟨Ay,Ce,Be⟩:iY)=false from by simp[AH,p1]];try rfl,by exact Ag⟩
 cases p2:wZ Ce
 .
  go_wp2_with (first|(go_at_call 303;refine(wR _ _ _ _).mono ?_;rintro e9 w9 ⟨rfl,rfl⟩;rw[p1])|(go_at_call 207;refine(BK _ _).mono ?_;rintro e9 w9 ⟨rfl,rfl⟩;rw[p2])|(go_at_call 377;refine(FO _ _ Be (zX.ext Ag)).mono ?_;rintro e9 w1 ⟨rfl,hx1⟩;rw[p5];have J0:=hx1.cell I0;have J1:=hx1.cell I1;have J2:=hx1.cell I2;have hLb:w.heap.size<w1.heap.size:=World.block_lt_of_cell? _ _ J0))
  go_ret
  exact⟨by rw[show AH (⟨Ay,Ce,Be⟩:iY)=false from by simp[AH,p2]];try rfl,by exact Ag⟩
 obtain⟨b3,hb3⟩:∃b,b=(Ay == 0):=⟨_,rfl⟩
 obtain⟨b4,hb4⟩:∃b,b=(Ce != 0):=⟨_,rfl⟩
 by_cases hz:Ay=0/\Ce≠0
 .
  have hb3:(Ay == 0)=true:=by simpa using hz.1
  have hb4:(Ce != 0)=true:=by simpa using hz.2
  have HZ:=Lib.hid hz
  clear hz
  go_wp2_with (first|(go_at_call 303;refine(wR _ _ _ _).mono ?_;rintro e9 w9 ⟨rfl,rfl⟩;rw[p1])|(go_at_call 207;refine(BK _ _).mono ?_;rintro e9 w9 ⟨rfl,rfl⟩;rw[p2])|(go_at_call 377;refine(FO _ _ Be (zX.ext Ag)).mono ?_;rintro e9 w1 ⟨rfl,hx1⟩;rw[p5];have J0:=hx1.cell I0;have J1:=hx1.cell I1;have J2:=hx1.cell I2;have hLb:w.heap.size<w1.heap.size:=World.block_lt_of_cell? _ _ J0))
  go_ret
  exact⟨by rw[show AH (⟨Ay,Ce,Be⟩:iY)=false from by simp[AH,HZ.out.1,HZ.out.2]];try rfl,by exact Ag⟩
 have hbz:b3=true->b4=false:=by intro h;rw[hb3] at h;rw[hb4];simp at h ⊢;exact Classical.byContradiction fun h'=>hz ⟨h,h'⟩
 have HZ:=Lib.hid hz
 have HB3:=Lib.hid hb3.symm;have HB4:=Lib.hid hb4.symm
 clear hz hb3 hb4
 by_cases h20:Be.length<=20
 rotate_left
 .
  have h20b:decide (20<Be.length)=true:=by simp;omega
  have q3:=HB3.out;have q4:=HB4.out
  cases b3
  .
   go_wp2_with (first|(go_at_call 303;refine(wR _ _ _ _).mono ?_;rintro e9 w9 ⟨rfl,rfl⟩;rw[p1])|(go_at_call 207;refine(BK _ _).mono ?_;rintro e9 w9 ⟨rfl,rfl⟩;rw[p2])|(go_at_call 377;refine(FO _ _ Be (zX.ext Ag)).mono ?_;rintro e9 w1 ⟨rfl,hx1⟩;rw[p5];have J0:=hx1.cell I0;have J1:=hx1.cell I1;have J2:=hx1.cell I2;have hLb:w.heap.size<w1.heap.size:=World.block_lt_of_cell? _ _ J0))
   go_ret
   exact⟨by rw[show AH (⟨Ay,Ce,Be⟩:iY)=false from by simp[AH,h20]];try rfl,by exact Ag⟩
  have q5:=hbz rfl
  rw[q5] at q4
  go_wp2_with (first|(go_at_call 303;refine(wR _ _ _ _).mono ?_;rintro e9 w9 ⟨rfl,rfl⟩;rw[p1])|(go_at_call 207;refine(BK _ _).mono ?_;rintro e9 w9 ⟨rfl,rfl⟩;rw[p2])|(go_at_call 377;refine(FO _ _ Be (zX.ext Ag)).mono ?_;rintro e9 w1 ⟨rfl,hx1⟩;rw[p5];have J0:=hx1.cell I0;have J1:=hx1.cell I1;have J2:=hx1.cell I2;have hLb:w.heap.size<w1.heap.size:=World.block_lt_of_cell? _ _ J0))
  go_ret
  exact⟨by rw[show AH (⟨Ay,Ce,Be⟩:iY)=false from by simp[AH,h20]];try rfl,by exact Ag⟩
 have h20b:decide (20<Be.length)=false:=by simp;omega
 cases p5:IT Be
 .
  have q3:=HB3.out;have q4:=HB4.out
  cases b3
  .
   go_wp2_with (first|(go_at_call 303;refine(wR _ _ _ _).mono ?_;rintro e9 w9 ⟨rfl,rfl⟩;rw[p1])|(go_at_call 207;refine(BK _ _).mono ?_;rintro e9 w9 ⟨rfl,rfl⟩;rw[p2])|(go_at_call 377;refine(FO _ _ Be (zX.ext Ag)).mono ?_;rintro e9 w1 ⟨rfl,hx1⟩;rw[p5];have J0:=hx1.cell I0;have J1:=hx1.cell I1;have J2:=hx1.cell I2;have hLb:w.heap.size<w1.heap.size:=World.block_lt_of_cell? _ _ J0))
   go_ret
   exact⟨by rw[show AH (⟨Ay,Ce,Be⟩:iY)=false from by simp[AH,p5]];try rfl,by exact Ag⟩
  have q5:=hbz rfl
  rw[q5] at q4
  go_wp2_with (first|(go_at_call 303;refine(wR _ _ _ _).mono ?_;rintro e9 w9 ⟨rfl,rfl⟩;rw[p1])|(go_at_call 207;refine(BK _ _).mono ?_;rintro e9 w9 ⟨rfl,rfl⟩;rw[p2])|(go_at_call 377;refine(FO _ _ Be (zX.ext Ag)).mono ?_;rintro e9 w1 ⟨rfl,hx1⟩;rw[p5];have J0:=hx1.cell I0;have J1:=hx1.cell I1;have J2:=hx1.cell I2;have hLb:w.heap.size<w1.heap.size:=World.block_lt_of_cell? _ _ J0))
  go_ret
  exact⟨by rw[show AH (⟨Ay,Ce,Be⟩:iY)=false from by simp[AH,p5]];try rfl,by exact Ag⟩
 have hpos:AH (⟨Ay,Ce,Be⟩:iY)=QA (⟨Ay,Ce,Be⟩:iY):=by
  simp only[AH];rw[p1,p2,p5,show decide (Be.length<=20)=true by simpa using h20]
  rw[show(decide (Ay=0)&&decide (Ce≠0))=false by have:=HZ.out;simp;intro h;exact Classical.byContradiction fun h'=>this ⟨h,h'⟩]
  rfl
 have HPOS:=Lib.hid hpos
 clear hpos
 go_cut [34] (fun cx0 wx=>cx0=.bool false/\Ext W0 wx)
 case first =>
  have q3:=HB3.out;have q4:=HB4.out
  cases b3
  .
   go_wp2_with (first|(go_at_call 303;refine(wR _ _ _ _).mono ?_;rintro e9 w9 ⟨rfl,rfl⟩;rw[p1])|(go_at_call 207;refine(BK _ _).mono ?_;rintro e9 w9 ⟨rfl,rfl⟩;rw[p2])|(go_at_call 377;refine(FO _ _ Be (zX.ext Ag)).mono ?_;rintro e9 w1 ⟨rfl,hx1⟩;rw[p5];have J0:=hx1.cell I0;have J1:=hx1.cell I1;have J2:=hx1.cell I2;have hLb:w.heap.size<w1.heap.size:=World.block_lt_of_cell? _ _ J0))
   go_meet
   case rel=>exact⟨by first|rfl|(simp;done)|(simp;omega),by exact Ag⟩
  have q5:=hbz rfl
  rw[q5] at q4
  go_wp2_with (first|(go_at_call 303;refine(wR _ _ _ _).mono ?_;rintro e9 w9 ⟨rfl,rfl⟩;rw[p1])|(go_at_call 207;refine(BK _ _).mono ?_;rintro e9 w9 ⟨rfl,rfl⟩;rw[p2])|(go_at_call 377;refine(FO _ _ Be (zX.ext Ag)).mono ?_;rintro e9 w1 ⟨rfl,hx1⟩;rw[p5];have J0:=hx1.cell I0;have J1:=hx1.cell I1;have J2:=hx1.cell I2;have hLb:w.heap.size<w1.heap.size:=World.block_lt_of_cell? _ _ J0))
  go_meet
  case rel=>exact⟨by first|rfl|(simp;done)|(simp;omega),by exact Ag⟩
 revert wc;intro w0 hcut
 obtain⟨rfl,hx0⟩:=hcut
 have hEw:=hEw.trans hx0
 have I0:=hx0.cell I0;have I1:=hx0.cell I1;have I2:=hx0.cell I2
 have hLb0:w.heap.size<w0.heap.size:=World.block_lt_of_cell? _ _ I0
 go_upto_region 3 with(first|(go_at_call 303;refine(wR _ _ _ _).mono ?_;rintro e9 w9 ⟨rfl,rfl⟩;rw[p1])|(go_at_call 207;refine(BK _ _).mono ?_;rintro e9 w9 ⟨rfl,rfl⟩;rw[p2])|(go_at_call 377;refine(FO _ _ Be (zX.ext Ag)).mono ?_;rintro e9 w1 ⟨rfl,hx1⟩;rw[p5];have J0:=hx1.cell I0;have J1:=hx1.cell I1;have J2:=hx1.cell I2;have hLb:w.heap.size<w1.heap.size:=World.block_lt_of_cell? _ _ J0))
 have w1e:w0=w0:=rfl
 obtain⟨wz,hwz⟩:∃wz,wz=w0:=⟨_,rfl⟩
 rw[<-hwz]
 have hEz:Ext W0 wz:=by rw[hwz];exact hx0
 have hEwz:Ext w wz:=by rw[hwz];exact hEw
 have J0:wz.cell? ⟨w.heap.size,0,none⟩=some (.int .i64 Ay):=by rw[hwz];exact I0
 have J1:wz.cell? ⟨w.heap.size,1,none⟩=some (.int .i64 Ce):=by rw[hwz];exact I1
 have J2:wz.cell? ⟨w.heap.size,2,none⟩=some (.slice a2 Be.length cap2):=by rw[hwz];exact I2
 clear hwz
 by_cases hl0:Be.length=0
 .
  have e1:QA (⟨Ay,Ce,Be⟩:iY)=true:=by rw[List.eq_nil_of_length_eq_zero hl0];rfl
  have l0b:((Be.length:Int) == 0)=true:=by simpa using hl0
  have l0c:decide (Be.length=0)=true:=by simpa using hl0
  have HE:=Lib.hid e1
  clear e1 hl0
  go_wp2_with fail
  go_quiet (fail)
  go_wp2_with fail
  go_ret
  exact⟨by rw[HPOS.out,HE.out];try rfl,by exact Ag⟩
 obtain⟨d,b1,o1,hd,rfl,hb1,c⟩:=HA.out 0 oM
 have d0:=hEwz.cell (c 0 _ dC rfl)
 have d1:=hEwz.cell (c 1 _ dC rfl)
 simp only[Nat.zero_mul,Nat.add_zero] at d0 d1
 have e1:QA (⟨Ay,Ce,Be⟩:iY)=(decide (d.Index=Ay+1)&&decide (Ce<=d.Time)):=by
  cases Be with
  | nil=>simp at hd
  | cons x l=>simp at hd;subst hd;rfl
 have hwr:IntKind.i64.wrap (Ay+1)=Ay+1:=by have:=AO.1 p1;rw[IntKind.wrap_i64] <;> omega
 have hpl:0<Be.length:=by omega
 have l0b:((Be.length:Int) == 0)=false:=by simpa using hl0
 have l0c:decide (Be.length=0)=false:=by simpa using hl0
 have HE:=Lib.hid e1
 clear e1 hl0 c hd
 by_cases hi:d.Index=Ay+1
 .
  have hi1:(d.Index == Ay+1)=true:=by simpa using hi
  have hi2:decide (d.Index=Ay+1)=true:=by simpa using hi
  have HI:=Lib.hid hi2
  clear hi
  go_wp2_with fail
  go_quiet (fail)
  go_wp2_with fail
  go_ret
  exact⟨by rw[HPOS.out,HE.out,HI.out];first|rfl|(simp;done),by exact Ag⟩
 have hi1:(d.Index == Ay+1)=false:=by simpa using hi
 have hi2:decide (d.Index=Ay+1)=false:=by simpa using hi
 have HI:=Lib.hid hi2
 clear hi
 go_wp2_with fail
 go_quiet (fail)
 go_wp2_with fail
 go_ret
 exact⟨by rw[HPOS.out,HE.out,HI.out];first|rfl|(simp;done),by exact Ag⟩
theorem cK9{p:Prop}(h:p:=by intro KQ hKQ;(repeat (first|go_big_quiet_skip|(go_big_quiet_want;first|(refine Hn _ _ _ ?_ rfl rfl (fun wq hq=>?_) ?_;rotate_left;(focus((try have y0:=hq.cell I0);(try have y1:=hq.cell I1);(try have y2:=hq.cell I2);(try have y3:=hq.cell I3);go_simp;first|done|rfl));(try simp only[Ak,Act.put]);go_big_quiet_on)|(go_big_quiet_op;first|go_big_quiet_on|(refine⟨_,fun _ _=>rfl,?_⟩;go_big_quiet_on)|(apply Exists.intro;refine⟨fun wq hq=>?_,?_⟩;(focus(first|(go_at_call_of 303 (Value.int .i64 2000);exact Ma hq (by have c:=wR wq Ce 0 2000;rw[p1] at c;exact c))));go_big_quiet_on)))));exact wpQuiet_nil hKQ):p:=h
theorem cL0{p:Prop}(h:p:=by intro KQ hKQ;(repeat (first|go_big_quiet_skip|(go_big_quiet_want;first|(refine Hn _ _ _ ?_ rfl rfl (fun wq hq=>?_) ?_;rotate_left;(focus((try have y0:=hq.cell I0);(try have y1:=hq.cell I1);(try have y2:=hq.cell I2);(try have y3:=hq.cell I3);go_simp;first|done|rfl));(try simp only[Ak,Act.put]);go_big_quiet_on)|(go_big_quiet_op;first|go_big_quiet_on|(refine⟨_,fun _ _=>rfl,?_⟩;go_big_quiet_on)|(apply Exists.intro;refine⟨fun wq hq=>?_,?_⟩;(focus(first|(go_at_call_of 303 (Value.int .i64 2000);exact Ma hq (by have c:=wR wq Ce 0 2000;rw[p1] at c;exact c))|(go_at_call_of 303 (Value.int .i64 Ay);exact Ma hq (by have c:=wR wq Ay 0 Ce;rw[p2] at c;exact c))));go_big_quiet_on)))));exact wpQuiet_nil hKQ):p:=h
theorem bV2{p:Prop}(h:p:=by intro KQ hKQ;(repeat (first|go_big_quiet_skip|(go_big_quiet_want;first|(refine Hn _ _ _ ?_ rfl rfl (fun wq hq=>?_) ?_;rotate_left;(focus((try have y0:=hq.cell I0);(try have y1:=hq.cell I1);(try have y2:=hq.cell I2);(try have y3:=hq.cell I3);go_simp;first|done|rfl));(try simp only[Ak,Act.put]);go_big_quiet_on)|(go_big_quiet_op;first|go_big_quiet_on|(refine⟨_,fun _ _=>rfl,?_⟩;go_big_quiet_on)|(apply Exists.intro;refine⟨fun wq hq=>?_,?_⟩;(focus(first|(go_at_call_of 303 (Value.int .i64 2000);exact Ma hq (by have c:=wR wq Ce 0 2000;rw[p1] at c;exact c))|(go_at_call_of 303 (Value.int .i64 Ay);exact Ma hq (by have c:=wR wq Ay 0 Ce;rw[p2] at c;exact c))|(go_at_call 207;exact Ma hq (by have c:=BK wq Uu;rw[p3] at c;exact c))));go_big_quiet_on)))));exact wpQuiet_nil hKQ):p:=h
theorem bB8{p:Prop}(h:p:=by intro KQ hKQ;(repeat (first|go_big_quiet_skip|(go_big_quiet_want;first|(refine Hn _ _ _ ?_ rfl rfl (fun wq hq=>?_) ?_;rotate_left;(focus((try have y0:=hq.cell I0);(try have y1:=hq.cell I1);(try have y2:=hq.cell I2);(try have y3:=hq.cell I3);go_simp;first|done|rfl));(try simp only[Ak,Act.put]);go_big_quiet_on)|(go_big_quiet_op;first|go_big_quiet_on|(refine⟨_,fun _ _=>rfl,?_⟩;go_big_quiet_on)|(apply Exists.intro;refine⟨fun wq hq=>?_,?_⟩;(focus(first|(go_at_call_of 303 (Value.int .i64 2000);exact Ma hq (by have c:=wR wq Ce 0 2000;rw[p1] at c;exact c))|(go_at_call_of 303 (Value.int .i64 Ay);exact Ma hq (by have c:=wR wq Ay 0 Ce;rw[p2] at c;exact c))|(go_at_call 207;exact Ma hq (by have c:=BK wq Uu;rw[p3] at c;exact c))|(go_at_call 375;exact Tu hq (by have c:=NL wq _ Fc (DN.ext (hEw.trans hq));rw[p5] at c;exact c))));go_big_quiet_on)))));exact wpQuiet_nil hKQ):p:=h
theorem bB9{p:Prop}(h:p:=by intro KQ hKQ;(repeat (first|go_big_quiet_skip|(go_big_quiet_want;first|(refine Hn _ _ _ ?_ rfl rfl (fun wq hq=>?_) ?_;rotate_left;(focus((try have y0:=hq.cell I0);(try have y1:=hq.cell I1);(try have y2:=hq.cell I2);(try have y3:=hq.cell I3);go_simp;first|done|rfl));(try simp only[Ak,Act.put]);go_big_quiet_on)|(go_big_quiet_op;first|go_big_quiet_on|(refine⟨_,fun _ _=>rfl,?_⟩;go_big_quiet_on)|(apply Exists.intro;refine⟨fun wq hq=>?_,?_⟩;(focus(first|(go_at_call_of 303 (Value.int .i64 2000);exact Ma hq (by have c:=wR wq Ce 0 2000;rw[p1] at c;exact c))|(go_at_call_of 303 (Value.int .i64 Ay);exact Ma hq (by have c:=wR wq Ay 0 Ce;rw[p2] at c;exact c))|(go_at_call 207;exact Ma hq (by have c:=BK wq Uu;rw[p3] at c;exact c))|(go_at_call 375;exact Tu hq (by have c:=NL wq _ Fc (DN.ext (hEw.trans hq));rw[p5] at c;exact c))|(go_at_call 376;exact Tu hq (TI wq _ Fc (DN.ext (hEw.trans hq)) p5))));go_big_quiet_on)))));exact wpQuiet_nil hKQ):p:=h
theorem QZ(w:World)(Ay:Int)(Ce:Int)(Uu:Int)(GH:Value)(Fc:List Bz)(DN:Aw 3 w GH (Xh Fc)):Calls Tryz.prog 305 #[.agg #[.int .i64 Ay,.int .i64 Ce,.int .i64 Uu,GH]] w (Fz w (.bool (AK (⟨Ay,Ce,Uu,Fc⟩:wG)))):=by
 obtain⟨a3,n3,k3,rfl⟩:=DN.shape
 obtain⟨W0,hW0⟩:∃W0,W0=w.alloc (.cells #[.int .i64 Ay,.int .i64 Ce,.int .i64 Uu,.slice a3 n3 k3] 75):=⟨_,rfl⟩
 have hEw:Ext w W0:=by rw[hW0];exact(Ext.refl _).alloc _
 have KX:Blk W0 w.heap.size 75 #[.int .i64 Ay,.int .i64 Ce,.int .i64 Uu,.slice a3 n3 k3]:=by rw[hW0];exact Blk.new _ _ _
 have hLX:=KX.lt
 have I0:=KX.cell 0;have I1:=KX.cell 1;have I2:=KX.cell 2;have I3:=KX.cell 3
 simp only[List.getElem?_toArray,List.getElem?_cons_zero,List.getElem?_cons_succ] at I0 I1 I2 I3
 go_enter Tryz.func305,Tryz.ntmps305
 go_upto_region 1 with(fail)
 rw[<-hW0]
 clear hW0 KX
 cases p1:inb Ce 0 2000
 .
  refine rx0 cK9 fun w1 hx1=>?_
  go_wp2_with fail
  go_ret
  exact⟨by rw[show AK (⟨Ay,Ce,Uu,Fc⟩:wG)=false from by simp[AK,p1]];try rfl,by exact Ag⟩
 cases p2:inb Ay 0 Ce
 .
  refine rx0 cL0 fun w1 hx1=>?_
  go_wp2_with fail
  go_ret
  exact⟨by rw[show AK (⟨Ay,Ce,Uu,Fc⟩:wG)=false from by simp[AK,p2]];try rfl,by exact Ag⟩
 cases p3:wZ Uu
 .
  refine rx0 bV2 fun w1 hx1=>?_
  go_wp2_with fail
  go_ret
  exact⟨by rw[show AK (⟨Ay,Ce,Uu,Fc⟩:wG)=false from by simp[AK,p3]];try rfl,by exact Ag⟩
 by_cases hb:0<Ce
 .
  have hb1:decide (0<Ce)=true:=by simpa using hb
  cases p5:GT Fc
  .
   refine rx0 bB8 fun w1 hx1=>?_
   go_wp2_with fail
   go_ret
   exact⟨by rw[show AK (⟨Ay,Ce,Uu,Fc⟩:wG)=false from by simp[AK,p5]];try rfl,by exact Ag⟩
  refine rx0 bB9 fun w1 hx1=>?_
  go_wp2_with fail
  go_ret
  exact⟨by rw[show AK (⟨Ay,Ce,Uu,Fc⟩:wG)=decide (AB Fc=Ce) from by simp[AK,p1,p2,p3,p5,hb]];first|rfl|(simp[bq];done),by exact Ag⟩
 have hb1:decide (0<Ce)=false:=by simpa using hb
 by_cases hz:Uu=0
 rotate_left
 .
  have hz1:(Uu == 0)=false:=by simpa using hz
  have HZ:=Lib.hid hz
  clear hz
  refine rx0 bV2 fun w1 hx1=>?_
  go_wp2_with fail
  go_ret
  exact⟨by rw[show AK (⟨Ay,Ce,Uu,Fc⟩:wG)=false from by simp only[AK];rw[hb1];simp[HZ.out]];try rfl,by exact Ag⟩
 have hz1:(Uu == 0)=true:=by simpa using hz
 have HZ:=Lib.hid hz
 clear hz
 cases p5:GT Fc
 .
  refine rx0 bB8 fun w1 hx1=>?_
  go_wp2_with fail
  go_ret
  exact⟨by rw[show AK (⟨Ay,Ce,Uu,Fc⟩:wG)=false from by simp[AK,p5]];try rfl,by exact Ag⟩
 refine rx0 bB9 fun w1 hx1=>?_
 go_wp2_with fail
 go_ret
 exact⟨by rw[show AK (⟨Ay,Ce,Uu,Fc⟩:wG)=decide (AB Fc=Ce) from by simp only[AK];rw[p1,p2,p3,p5];simp[HZ.out]];first|rfl|(simp[bq];done),by exact Ag⟩
end Go.Proofs.YtkpmbocbbgocbaaGreat
