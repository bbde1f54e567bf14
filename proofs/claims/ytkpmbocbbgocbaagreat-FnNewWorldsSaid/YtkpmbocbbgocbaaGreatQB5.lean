/- BkT BkI BkH BkA So Ms So2 EqMark EqH BkK BkB. -/
import Derived.Test.YtkpmbocbbgocbaaGreatQB4
set_option linter.unusedSimpArgs false
set_option linter.unusedVariables false
set_option maxHeartbeats 16000000
set_option maxRecDepth 100000
namespace Go.Proofs.YtkpmbocbbgocbaaGreat
open Go.RowKit Go.G8
theorem Yw(w:World)(Dl:Value)(Ad:List (List Int))(Fe:Value)(Am:List Eb)(Fy:Value)(Ao:List (List Int))(Iq:Value)(Bm:List Eb)(Dk:Ck 0 w Dl (Ac Ad))(Ev:Ck 1 w Fe (Ah Am))(Ek:Ck 0 w Fy (Ac Ao))(Gm:Ck 1 w Iq (Ah Bm)):Calls Tryz.prog 183 #[.agg #[Dl,Fe,Fy,Iq]] w (Cp w (.bool (Jy (⟨⟨Ad,Am⟩,⟨Ao,Bm⟩⟩:Jg)))):=by
 obtain⟨a0,cap0,rfl,hc0,hm0,-⟩:=Ck.rows Dk
 obtain⟨a1,n1,k1,rfl⟩:=Ev.shape
 obtain⟨a2,cap2,rfl,hc2,hm2,-⟩:=Ck.rows Ek
 obtain⟨a3,n3,k3,rfl⟩:=Gm.shape
 unfold maxLen at hm0 hm2
 obtain⟨W0,hW0⟩:∃W0,W0=w.alloc (.cells #[.slice a0 Ad.length cap0,.slice a1 n1 k1,.slice a2 Ao.length cap2,.slice a3 n3 k3] 72):=⟨_,rfl⟩
 have hEw:Ext w W0:=by rw[hW0];exact(Ext.refl _).alloc _
 have KX:Blk W0 w.heap.size 72 #[.slice a0 Ad.length cap0,.slice a1 n1 k1,.slice a2 Ao.length cap2,.slice a3 n3 k3]:=by rw[hW0];exact Blk.new _ _ _
 have hLX:=KX.lt
 go_enter Tryz.func183,Tryz.ntmps183
 go_upto_region 1 with(fail)
 rw[<-hW0]
 clear hW0
 have CX:=KX.cell
 go_wp2_with (first|(go_at_call_of 186 (Value.agg #[.slice a0 Ad.length cap0,.slice a1 n1 k1]);refine(Rm _ (.slice a0 Ad.length cap0) _ (.slice a1 n1 k1) _ (Dk.ext Aa) (Ev.ext Aa)).mono ?_;rintro e9 wa ⟨rfl,hxa⟩;have Ka:=KX.ext hxa;have Ca:=Ka.cell;have La:=Ka.lt)|(go_at_call_of 186 (Value.agg #[.slice a2 Ao.length cap2,.slice a3 n3 k3]);refine(Rm _ (.slice a2 Ao.length cap2) _ (.slice a3 n3 k3) _ (Ek.ext Aa) (Gm.ext Aa)).mono ?_;rintro e9 wb ⟨rfl,hxb⟩;have Kb:=Ka.ext hxb;have Cb:=Kb.cell;have Lb:=Kb.lt))
 all_goals
  go_ret
  exact⟨by first|rfl|(simp[Jy, *];done)|(simp_all [Jy,bq,bn];done)|(simp_all [Jy,bq,bn];omega),by exact Aa⟩
theorem Rr(w:World)(Dl:Value)(Ad:List (List Int))(Fe:Value)(Am:List Eb)(Fy:Value)(Ao:List (List Int))(Iq:Value)(Bm:List Eb)(Dk:Ck 0 w Dl (Ac Ad))(Ev:Ck 1 w Fe (Ah Am))(Ek:Ck 0 w Fy (Ac Ao))(Gm:Ck 1 w Iq (Ah Bm)):Calls Tryz.prog 279 #[.agg #[Dl,Fe,Fy,Iq]] w (Cp w (.bool (Oc (⟨⟨Ad,Am⟩,⟨Ao,Bm⟩⟩:Jg)))):=by
 obtain⟨a0,cap0,rfl,hc0,hm0,-⟩:=Ck.rows Dk
 obtain⟨a1,n1,k1,rfl⟩:=Ev.shape
 obtain⟨a2,cap2,rfl,hc2,hm2,-⟩:=Ck.rows Ek
 obtain⟨a3,n3,k3,rfl⟩:=Gm.shape
 unfold maxLen at hm0 hm2
 obtain⟨W0,hW0⟩:∃W0,W0=w.alloc (.cells #[.slice a0 Ad.length cap0,.slice a1 n1 k1,.slice a2 Ao.length cap2,.slice a3 n3 k3] 72):=⟨_,rfl⟩
 have hEw:Ext w W0:=by rw[hW0];exact(Ext.refl _).alloc _
 have KX:Blk W0 w.heap.size 72 #[.slice a0 Ad.length cap0,.slice a1 n1 k1,.slice a2 Ao.length cap2,.slice a3 n3 k3]:=by rw[hW0];exact Blk.new _ _ _
 have hLX:=KX.lt
 go_enter Tryz.func279,Tryz.ntmps279
 go_upto_region 1 with(fail)
 rw[<-hW0]
 clear hW0
 have CX:=KX.cell
 go_wp2_with (first|(go_at_call 183;refine(Yw _ (.slice a0 Ad.length cap0) _ (.slice a1 n1 k1) _ (.slice a2 Ao.length cap2) _ (.slice a3 n3 k3) _ (Dk.ext Aa) (Ev.ext Aa) (Ek.ext Aa) (Gm.ext Aa)).mono ?_;rintro e9 wa ⟨rfl,hxa⟩;have Ka:=KX.ext hxa;have Ca:=Ka.cell;have La:=Ka.lt))
 all_goals
  go_ret
  exact⟨by first|rfl|(simp[Oc, *];done)|(simp_all [Oc,bq,bn];done)|(simp_all [Oc,bq,bn];omega),by exact Aa⟩
theorem Wl(w:World)(Dl:Value)(Ad:List (List Int))(Fe:Value)(Am:List Eb)(Fy:Value)(Ao:List (List Int))(Iq:Value)(Bm:List Eb)(Dk:Ck 0 w Dl (Ac Ad))(Ev:Ck 1 w Fe (Ah Am))(Ek:Ck 0 w Fy (Ac Ao))(Gm:Ck 1 w Iq (Ah Bm)):Calls Tryz.prog 313 #[.agg #[Dl,Fe,Fy,Iq]] w (Cp w (.bool (Jy (⟨⟨Ad,Am⟩,⟨Ao,Bm⟩⟩:Jg)))):=by
 obtain⟨a0,cap0,rfl,hc0,hm0,-⟩:=Ck.rows Dk
 obtain⟨a1,n1,k1,rfl⟩:=Ev.shape
 obtain⟨a2,cap2,rfl,hc2,hm2,-⟩:=Ck.rows Ek
 obtain⟨a3,n3,k3,rfl⟩:=Gm.shape
 unfold maxLen at hm0 hm2
 obtain⟨W0,hW0⟩:∃W0,W0=w.alloc (.cells #[.slice a0 Ad.length cap0,.slice a1 n1 k1,.slice a2 Ao.length cap2,.slice a3 n3 k3] 72):=⟨_,rfl⟩
 have hEw:Ext w W0:=by rw[hW0];exact(Ext.refl _).alloc _
 have KX:Blk W0 w.heap.size 72 #[.slice a0 Ad.length cap0,.slice a1 n1 k1,.slice a2 Ao.length cap2,.slice a3 n3 k3]:=by rw[hW0];exact Blk.new _ _ _
 have hLX:=KX.lt
 go_enter Tryz.func313,Tryz.ntmps313
 go_upto_region 1 with(fail)
 rw[<-hW0]
 clear hW0
 have CX:=KX.cell
 go_wp2_with (first|(go_at_call_of 317 (Value.agg #[.slice a0 Ad.length cap0,.slice a1 n1 k1]);refine(Nq _ (.slice a0 Ad.length cap0) _ (.slice a1 n1 k1) _ (Dk.ext Aa) (Ev.ext Aa)).mono ?_;rintro e9 wa ⟨rfl,hxa⟩;have Ka:=KX.ext hxa;have Ca:=Ka.cell;have La:=Ka.lt)|(go_at_call_of 317 (Value.agg #[.slice a2 Ao.length cap2,.slice a3 n3 k3]);refine(Nq _ (.slice a2 Ao.length cap2) _ (.slice a3 n3 k3) _ (Ek.ext Aa) (Gm.ext Aa)).mono ?_;rintro e9 wb ⟨rfl,hxb⟩;have Kb:=Ka.ext hxb;have Cb:=Kb.cell;have Lb:=Kb.lt))
 all_goals
  go_ret
  exact⟨by first|rfl|(simp[Jy, *];done)|(simp_all [Jy,bq,bn];done)|(simp_all [Jy,bq,bn];omega),by exact Aa⟩
theorem Pw(w:World)(Dl:Value)(Ad:List (List Int))(Fe:Value)(Am:List Eb)(Fy:Value)(Ao:List (List Int))(Iq:Value)(Bm:List Eb)(Dk:Ck 0 w Dl (Ac Ad))(Ev:Ck 1 w Fe (Ah Am))(Ek:Ck 0 w Fy (Ac Ao))(Gm:Ck 1 w Iq (Ah Bm)):Calls Tryz.prog 304 #[.agg #[Dl,Fe,Fy,Iq]] w (Cp w (.bool (Oc (⟨⟨Ad,Am⟩,⟨Ao,Bm⟩⟩:Jg)))):=by
 obtain⟨a0,cap0,rfl,hc0,hm0,-⟩:=Ck.rows Dk
 obtain⟨a1,n1,k1,rfl⟩:=Ev.shape
 obtain⟨a2,cap2,rfl,hc2,hm2,-⟩:=Ck.rows Ek
 obtain⟨a3,n3,k3,rfl⟩:=Gm.shape
 unfold maxLen at hm0 hm2
 obtain⟨W0,hW0⟩:∃W0,W0=w.alloc (.cells #[.slice a0 Ad.length cap0,.slice a1 n1 k1,.slice a2 Ao.length cap2,.slice a3 n3 k3] 72):=⟨_,rfl⟩
 have hEw:Ext w W0:=by rw[hW0];exact(Ext.refl _).alloc _
 have KX:Blk W0 w.heap.size 72 #[.slice a0 Ad.length cap0,.slice a1 n1 k1,.slice a2 Ao.length cap2,.slice a3 n3 k3]:=by rw[hW0];exact Blk.new _ _ _
 have hLX:=KX.lt
 go_enter Tryz.func304,Tryz.ntmps304
 go_upto_region 1 with(fail)
 rw[<-hW0]
 clear hW0
 have CX:=KX.cell
 go_wp2_with (first|(go_at_call 313;refine(Wl _ (.slice a0 Ad.length cap0) _ (.slice a1 n1 k1) _ (.slice a2 Ao.length cap2) _ (.slice a3 n3 k3) _ (Dk.ext Aa) (Ev.ext Aa) (Ek.ext Aa) (Gm.ext Aa)).mono ?_;rintro e9 wa ⟨rfl,hxa⟩;have Ka:=KX.ext hxa;have Ca:=Ka.cell;have La:=Ka.lt))
 all_goals
  go_ret
  exact⟨by first|rfl|(simp[Oc, *];done)|(simp_all [Oc,bq,bn];done)|(simp_all [Oc,bq,bn];omega),by exact Aa⟩
theorem uU{p:Prop}(h:p:=by intro KQ hKQ;(repeat (first|go_big_quiet_skip|(go_big_quiet_want;first|(refine Br _ _ _ ?_ rfl rfl (fun wq hq=>?_) ?_;rotate_left;(focus((try have y0:=hq.cell I0);(try have y1:=hq.cell I1);(try have y2:=hq.cell I2);(try have y3:=hq.cell I3);go_simp;first|done|rfl));(try simp only[Ab,Act.put]);go_big_quiet_on)|(go_big_quiet_op;first|go_big_quiet_on|(refine⟨_,fun _ _=>rfl,?_⟩;go_big_quiet_on)|(apply Exists.intro;refine⟨fun wq hq=>?_,?_⟩;(focus(first|(go_at_call_of 303 (Value.int .i64 2000);exact Ce hq (by have c:=Dv wq Ax 0 2000;rw[p1] at c;exact c))));go_big_quiet_on)))));exact wpQuiet_nil hKQ):p:=h
theorem uV{p:Prop}(h:p:=by intro KQ hKQ;(repeat (first|go_big_quiet_skip|(go_big_quiet_want;first|(refine Br _ _ _ ?_ rfl rfl (fun wq hq=>?_) ?_;rotate_left;(focus((try have y0:=hq.cell I0);(try have y1:=hq.cell I1);(try have y2:=hq.cell I2);(try have y3:=hq.cell I3);go_simp;first|done|rfl));(try simp only[Ab,Act.put]);go_big_quiet_on)|(go_big_quiet_op;first|go_big_quiet_on|(refine⟨_,fun _ _=>rfl,?_⟩;go_big_quiet_on)|(apply Exists.intro;refine⟨fun wq hq=>?_,?_⟩;(focus(first|(go_at_call_of 303 (Value.int .i64 2000);exact Ce hq (by have c:=Dv wq Ax 0 2000;rw[p1] at c;exact c))|(go_at_call_of 303 (Value.int .i64 Ae);exact Ce hq (by have c:=Dv wq Ae 0 Ax;rw[p2] at c;exact c))));go_big_quiet_on)))));exact wpQuiet_nil hKQ):p:=h
theorem pZ{p:Prop}(h:p:=by intro KQ hKQ;(repeat (first|go_big_quiet_skip|(go_big_quiet_want;first|(refine Br _ _ _ ?_ rfl rfl (fun wq hq=>?_) ?_;rotate_left;(focus((try have y0:=hq.cell I0);(try have y1:=hq.cell I1);(try have y2:=hq.cell I2);(try have y3:=hq.cell I3);go_simp;first|done|rfl));(try simp only[Ab,Act.put]);go_big_quiet_on)|(go_big_quiet_op;first|go_big_quiet_on|(refine⟨_,fun _ _=>rfl,?_⟩;go_big_quiet_on)|(apply Exists.intro;refine⟨fun wq hq=>?_,?_⟩;(focus(first|(go_at_call_of 303 (Value.int .i64 2000);exact Ce hq (by have c:=Dv wq Ax 0 2000;rw[p1] at c;exact c))|(go_at_call_of 303 (Value.int .i64 Ae);exact Ce hq (by have c:=Dv wq Ae 0 Ax;rw[p2] at c;exact c))|(go_at_call 207;exact Ce hq (by have c:=Fh wq Cw;rw[p3] at c;exact c))));go_big_quiet_on)))));exact wpQuiet_nil hKQ):p:=h
theorem qA{p:Prop}(h:p:=by intro KQ hKQ;(repeat (first|go_big_quiet_skip|(go_big_quiet_want;first|(refine Br _ _ _ ?_ rfl rfl (fun wq hq=>?_) ?_;rotate_left;(focus((try have y0:=hq.cell I0);(try have y1:=hq.cell I1);(try have y2:=hq.cell I2);(try have y3:=hq.cell I3);go_simp;first|done|rfl));(try simp only[Ab,Act.put]);go_big_quiet_on)|(go_big_quiet_op;first|go_big_quiet_on|(refine⟨_,fun _ _=>rfl,?_⟩;go_big_quiet_on)|(apply Exists.intro;refine⟨fun wq hq=>?_,?_⟩;(focus(first|(go_at_call_of 303 (Value.int .i64 2000);exact Ce hq (by have c:=Dv wq Ax 0 2000;rw[p1] at c;exact c))|(go_at_call_of 303 (Value.int .i64 Ae);exact Ce hq (by have c:=Dv wq Ae 0 Ax;rw[p2] at c;exact c))|(go_at_call 207;exact Ce hq (by have c:=Fh wq Cw;rw[p3] at c;exact c))|(go_at_call 375;exact Cv hq (by have c:=Ob wq _ Bm (Gm.ext (hEw.trans hq));rw[p5] at c;exact c))));go_big_quiet_on)))));exact wpQuiet_nil hKQ):p:=h
theorem qB{p:Prop}(h:p:=by intro KQ hKQ;(repeat (first|go_big_quiet_skip|(go_big_quiet_want;first|(refine Br _ _ _ ?_ rfl rfl (fun wq hq=>?_) ?_;rotate_left;(focus((try have y0:=hq.cell I0);(try have y1:=hq.cell I1);(try have y2:=hq.cell I2);(try have y3:=hq.cell I3);go_simp;first|done|rfl));(try simp only[Ab,Act.put]);go_big_quiet_on)|(go_big_quiet_op;first|go_big_quiet_on|(refine⟨_,fun _ _=>rfl,?_⟩;go_big_quiet_on)|(apply Exists.intro;refine⟨fun wq hq=>?_,?_⟩;(focus(first|(go_at_call_of 303 (Value.int .i64 2000);exact Ce hq (by have c:=Dv wq Ax 0 2000;rw[p1] at c;exact c))|(go_at_call_of 303 (Value.int .i64 Ae);exact Ce hq (by have c:=Dv wq Ae 0 Ax;rw[p2] at c;exact c))|(go_at_call 207;exact Ce hq (by have c:=Fh wq Cw;rw[p3] at c;exact c))|(go_at_call 375;exact Cv hq (by have c:=Ob wq _ Bm (Gm.ext (hEw.trans hq));rw[p5] at c;exact c))|(go_at_call 376;exact Cv hq (Tn wq _ Bm (Gm.ext (hEw.trans hq)) p5))));go_big_quiet_on)))));exact wpQuiet_nil hKQ):p:=h
theorem Py(w:World)(Ae:Int)(Ax:Int)(Cw:Int)(Iq:Value)(Bm:List Ar)(Gm:Aj 3 w Iq (Cz Bm)):Calls Tryz.prog 305 #[.agg #[.int .i64 Ae,.int .i64 Ax,.int .i64 Cw,Iq]] w (Cp w (.bool (Eh (⟨Ae,Ax,Cw,Bm⟩:Di)))):=by
 obtain⟨a3,n3,k3,rfl⟩:=Gm.shape
 obtain⟨W0,hW0⟩:∃W0,W0=w.alloc (.cells #[.int .i64 Ae,.int .i64 Ax,.int .i64 Cw,.slice a3 n3 k3] 75):=⟨_,rfl⟩
 have hEw:Ext w W0:=by rw[hW0];exact(Ext.refl _).alloc _
 have KX:Blk W0 w.heap.size 75 #[.int .i64 Ae,.int .i64 Ax,.int .i64 Cw,.slice a3 n3 k3]:=by rw[hW0];exact Blk.new _ _ _
 have hLX:=KX.lt
 have I0:=KX.cell 0;have I1:=KX.cell 1;have I2:=KX.cell 2;have I3:=KX.cell 3
 simp only[List.getElem?_toArray,List.getElem?_cons_zero,List.getElem?_cons_succ] at I0 I1 I2 I3
 go_enter Tryz.func305,Tryz.ntmps305
 go_upto_region 1 with(fail)
 rw[<-hW0]
 clear hW0 KX
 cases p1:inb Ax 0 2000
 .
  refine rx0 uU fun w1 hx1=>?_
  go_wp2_with fail
  go_ret
  exact⟨by rw[show Eh (⟨Ae,Ax,Cw,Bm⟩:Di)=false from by simp[Eh,p1]];try rfl,by exact Aa⟩
 cases p2:inb Ae 0 Ax
 .
  refine rx0 uV fun w1 hx1=>?_
  go_wp2_with fail
  go_ret
  exact⟨by rw[show Eh (⟨Ae,Ax,Cw,Bm⟩:Di)=false from by simp[Eh,p2]];try rfl,by exact Aa⟩
 cases p3:Ea Cw
 .
  refine rx0 pZ fun w1 hx1=>?_
  go_wp2_with fail
  go_ret
  exact⟨by rw[show Eh (⟨Ae,Ax,Cw,Bm⟩:Di)=false from by simp[Eh,p3]];try rfl,by exact Aa⟩
 by_cases hb:0<Ax
 .
  have hb1:decide (0<Ax)=true:=by simpa using hb
  cases p5:Ii Bm
  .
   refine rx0 qA fun w1 hx1=>?_
   go_wp2_with fail
   go_ret
   exact⟨by rw[show Eh (⟨Ae,Ax,Cw,Bm⟩:Di)=false from by simp[Eh,p5]];try rfl,by exact Aa⟩
  refine rx0 qB fun w1 hx1=>?_
  go_wp2_with fail
  go_ret
  exact⟨by rw[show Eh (⟨Ae,Ax,Cw,Bm⟩:Di)=decide (Ej Bm=Ax) from by simp[Eh,p1,p2,p3,p5,hb]];first|rfl|(simp[bq];done),by exact Aa⟩
 have hb1:decide (0<Ax)=false:=by simpa using hb
 by_cases hz:Cw=0
 rotate_left
 .
  have hz1:(Cw == 0)=false:=by simpa using hz
  have HZ:=Lib.hid hz
  clear hz
  refine rx0 pZ fun w1 hx1=>?_
  go_wp2_with fail
  go_ret
  exact⟨by rw[show Eh (⟨Ae,Ax,Cw,Bm⟩:Di)=false from by simp only[Eh];rw[hb1];simp[HZ.out]];try rfl,by exact Aa⟩
 have hz1:(Cw == 0)=true:=by simpa using hz
 have HZ:=Lib.hid hz
 clear hz
 cases p5:Ii Bm
 .
  refine rx0 qA fun w1 hx1=>?_
  go_wp2_with fail
  go_ret
  exact⟨by rw[show Eh (⟨Ae,Ax,Cw,Bm⟩:Di)=false from by simp[Eh,p5]];try rfl,by exact Aa⟩
 refine rx0 qB fun w1 hx1=>?_
 go_wp2_with fail
 go_ret
 exact⟨by rw[show Eh (⟨Ae,Ax,Cw,Bm⟩:Di)=decide (Ej Bm=Ax) from by simp only[Eh];rw[p1,p2,p3,p5];simp[HZ.out]];first|rfl|(simp[bq];done),by exact Aa⟩
theorem uW{p:Prop}(h:p:=by intro KQ hKQ;(repeat (first|go_big_quiet_skip|(go_big_quiet_want;first|(refine Br _ _ _ ?_ rfl rfl (fun wq hq=>?_) ?_;rotate_left;(focus((try have y0:=hq.cell I0);(try have y1:=hq.cell I1);(try have y2:=hq.cell I2);(try have y3:=hq.cell I3);go_simp;first|done|rfl));(try simp only[Ab,Act.put]);go_big_quiet_on)|(go_big_quiet_op;first|go_big_quiet_on|(refine⟨_,fun _ _=>rfl,?_⟩;go_big_quiet_on)|(apply Exists.intro;refine⟨fun wq hq=>?_,?_⟩;(focus(first|(go_at_call_of 176 (Value.int .i64 2000);exact Ce hq (by have c:=Cf wq Ax 0 2000;rw[p1] at c;exact c))));go_big_quiet_on)))));exact wpQuiet_nil hKQ):p:=h
theorem uX{p:Prop}(h:p:=by intro KQ hKQ;(repeat (first|go_big_quiet_skip|(go_big_quiet_want;first|(refine Br _ _ _ ?_ rfl rfl (fun wq hq=>?_) ?_;rotate_left;(focus((try have y0:=hq.cell I0);(try have y1:=hq.cell I1);(try have y2:=hq.cell I2);(try have y3:=hq.cell I3);go_simp;first|done|rfl));(try simp only[Ab,Act.put]);go_big_quiet_on)|(go_big_quiet_op;first|go_big_quiet_on|(refine⟨_,fun _ _=>rfl,?_⟩;go_big_quiet_on)|(apply Exists.intro;refine⟨fun wq hq=>?_,?_⟩;(focus(first|(go_at_call_of 176 (Value.int .i64 2000);exact Ce hq (by have c:=Cf wq Ax 0 2000;rw[p1] at c;exact c))|(go_at_call_of 176 (Value.int .i64 Ae);exact Ce hq (by have c:=Cf wq Ae 0 Ax;rw[p2] at c;exact c))));go_big_quiet_on)))));exact wpQuiet_nil hKQ):p:=h
theorem qD{p:Prop}(h:p:=by intro KQ hKQ;(repeat (first|go_big_quiet_skip|(go_big_quiet_want;first|(refine Br _ _ _ ?_ rfl rfl (fun wq hq=>?_) ?_;rotate_left;(focus((try have y0:=hq.cell I0);(try have y1:=hq.cell I1);(try have y2:=hq.cell I2);(try have y3:=hq.cell I3);go_simp;first|done|rfl));(try simp only[Ab,Act.put]);go_big_quiet_on)|(go_big_quiet_op;first|go_big_quiet_on|(refine⟨_,fun _ _=>rfl,?_⟩;go_big_quiet_on)|(apply Exists.intro;refine⟨fun wq hq=>?_,?_⟩;(focus(first|(go_at_call_of 176 (Value.int .i64 2000);exact Ce hq (by have c:=Cf wq Ax 0 2000;rw[p1] at c;exact c))|(go_at_call_of 176 (Value.int .i64 Ae);exact Ce hq (by have c:=Cf wq Ae 0 Ax;rw[p2] at c;exact c))|(go_at_call 177;exact Ce hq (by have c:=Ey wq Cw;rw[p3] at c;exact c))));go_big_quiet_on)))));exact wpQuiet_nil hKQ):p:=h
theorem qE{p:Prop}(h:p:=by intro KQ hKQ;(repeat (first|go_big_quiet_skip|(go_big_quiet_want;first|(refine Br _ _ _ ?_ rfl rfl (fun wq hq=>?_) ?_;rotate_left;(focus((try have y0:=hq.cell I0);(try have y1:=hq.cell I1);(try have y2:=hq.cell I2);(try have y3:=hq.cell I3);go_simp;first|done|rfl));(try simp only[Ab,Act.put]);go_big_quiet_on)|(go_big_quiet_op;first|go_big_quiet_on|(refine⟨_,fun _ _=>rfl,?_⟩;go_big_quiet_on)|(apply Exists.intro;refine⟨fun wq hq=>?_,?_⟩;(focus(first|(go_at_call_of 176 (Value.int .i64 2000);exact Ce hq (by have c:=Cf wq Ax 0 2000;rw[p1] at c;exact c))|(go_at_call_of 176 (Value.int .i64 Ae);exact Ce hq (by have c:=Cf wq Ae 0 Ax;rw[p2] at c;exact c))|(go_at_call 177;exact Ce hq (by have c:=Ey wq Cw;rw[p3] at c;exact c))|(go_at_call 357;exact Cv hq (by have c:=aD wq _ Bm (Gm.ext (hEw.trans hq));rw[p5] at c;exact c))));go_big_quiet_on)))));exact wpQuiet_nil hKQ):p:=h
theorem qF{p:Prop}(h:p:=by intro KQ hKQ;(repeat (first|go_big_quiet_skip|(go_big_quiet_want;first|(refine Br _ _ _ ?_ rfl rfl (fun wq hq=>?_) ?_;rotate_left;(focus((try have y0:=hq.cell I0);(try have y1:=hq.cell I1);(try have y2:=hq.cell I2);(try have y3:=hq.cell I3);go_simp;first|done|rfl));(try simp only[Ab,Act.put]);go_big_quiet_on)|(go_big_quiet_op;first|go_big_quiet_on|(refine⟨_,fun _ _=>rfl,?_⟩;go_big_quiet_on)|(apply Exists.intro;refine⟨fun wq hq=>?_,?_⟩;(focus(first|(go_at_call_of 176 (Value.int .i64 2000);exact Ce hq (by have c:=Cf wq Ax 0 2000;rw[p1] at c;exact c))|(go_at_call_of 176 (Value.int .i64 Ae);exact Ce hq (by have c:=Cf wq Ae 0 Ax;rw[p2] at c;exact c))|(go_at_call 177;exact Ce hq (by have c:=Ey wq Cw;rw[p3] at c;exact c))|(go_at_call 357;exact Cv hq (by have c:=aD wq _ Bm (Gm.ext (hEw.trans hq));rw[p5] at c;exact c))|(go_at_call 358;exact Cv hq (aE wq _ Bm (Gm.ext (hEw.trans hq))))));go_big_quiet_on)))));exact wpQuiet_nil hKQ):p:=h
theorem Lq(w:World)(Ae:Int)(Ax:Int)(Cw:Int)(Iq:Value)(Bm:List Ar)(Gm:Aj 3 w Iq (Cz Bm)):Calls Tryz.prog 280 #[.agg #[.int .i64 Ae,.int .i64 Ax,.int .i64 Cw,Iq]] w (Cp w (.bool (Eh (⟨Ae,Ax,Cw,Bm⟩:Di)))):=by
 obtain⟨a3,n3,k3,rfl⟩:=Gm.shape
 obtain⟨W0,hW0⟩:∃W0,W0=w.alloc (.cells #[.int .i64 Ae,.int .i64 Ax,.int .i64 Cw,.slice a3 n3 k3] 75):=⟨_,rfl⟩
 have hEw:Ext w W0:=by rw[hW0];exact(Ext.refl _).alloc _
 have KX:Blk W0 w.heap.size 75 #[.int .i64 Ae,.int .i64 Ax,.int .i64 Cw,.slice a3 n3 k3]:=by rw[hW0];exact Blk.new _ _ _
 have hLX:=KX.lt
 have I0:=KX.cell 0;have I1:=KX.cell 1;have I2:=KX.cell 2;have I3:=KX.cell 3
 simp only[List.getElem?_toArray,List.getElem?_cons_zero,List.getElem?_cons_succ] at I0 I1 I2 I3
 go_enter Tryz.func280,Tryz.ntmps280
 go_upto_region 1 with(fail)
 rw[<-hW0]
 clear hW0 KX
 cases p1:inb Ax 0 2000
 .
  refine rx0 uW fun w1 hx1=>?_
  go_wp2_with fail
  go_ret
  exact⟨by rw[show Eh (⟨Ae,Ax,Cw,Bm⟩:Di)=false from by simp[Eh,p1]];try rfl,by exact Aa⟩
 cases p2:inb Ae 0 Ax
 .
  refine rx0 uX fun w1 hx1=>?_
  go_wp2_with fail
  go_ret
  exact⟨by rw[show Eh (⟨Ae,Ax,Cw,Bm⟩:Di)=false from by simp[Eh,p2]];try rfl,by exact Aa⟩
 cases p3:Ea Cw
 .
  refine rx0 qD fun w1 hx1=>?_
  go_wp2_with fail
  go_ret
  exact⟨by rw[show Eh (⟨Ae,Ax,Cw,Bm⟩:Di)=false from by simp[Eh,p3]];try rfl,by exact Aa⟩
 by_cases hb:0<Ax
 .
  have hb1:decide (0<Ax)=true:=by simpa using hb
  cases p5:Ii Bm
  .
   refine rx0 qE fun w1 hx1=>?_
   go_wp2_with fail
   go_ret
   exact⟨by rw[show Eh (⟨Ae,Ax,Cw,Bm⟩:Di)=false from by simp[Eh,p5]];try rfl,by exact Aa⟩
  refine rx0 qF fun w1 hx1=>?_
  go_wp2_with fail
  go_ret
  exact⟨by rw[show Eh (⟨Ae,Ax,Cw,Bm⟩:Di)=decide (Ej Bm=Ax) from by simp[Eh,p1,p2,p3,p5,hb]];first|rfl|(simp[bq];done),by exact Aa⟩
 have hb1:decide (0<Ax)=false:=by simpa using hb
 by_cases hz:Cw=0
 rotate_left
 .
  have hz1:(Cw == 0)=false:=by simpa using hz
  have HZ:=Lib.hid hz
  clear hz
  refine rx0 qD fun w1 hx1=>?_
  go_wp2_with fail
  go_ret
  exact⟨by rw[show Eh (⟨Ae,Ax,Cw,Bm⟩:Di)=false from by simp only[Eh];rw[hb1];simp[HZ.out]];try rfl,by exact Aa⟩
 have hz1:(Cw == 0)=true:=by simpa using hz
 have HZ:=Lib.hid hz
 clear hz
 cases p5:Ii Bm
 .
  refine rx0 qE fun w1 hx1=>?_
  go_wp2_with fail
  go_ret
  exact⟨by rw[show Eh (⟨Ae,Ax,Cw,Bm⟩:Di)=false from by simp[Eh,p5]];try rfl,by exact Aa⟩
 refine rx0 qF fun w1 hx1=>?_
 go_wp2_with fail
 go_ret
 exact⟨by rw[show Eh (⟨Ae,Ax,Cw,Bm⟩:Di)=decide (Ej Bm=Ax) from by simp only[Eh];rw[p1,p2,p3,p5];simp[HZ.out]];first|rfl|(simp[bq];done),by exact Aa⟩
theorem Tr(w:World)(Ae:Int)(Ax:Int)(Fy:Value)(Ao:List Aq)(Ek:Aj 9 w Fy (Ds Ao)):Calls Tryz.prog 281 #[.agg #[.int .i64 Ae,.int .i64 Ax,Fy]] w (Cp w (.bool (Er (⟨Ae,Ax,Ao⟩:Df)))):=by
 obtain⟨a2,cap2,rfl,hcap2,hm2,ha2⟩:=Ek.recs (f:=Aq.ints) (fun _=>rfl) dC
 have HA:=Lib.hid ha2
 clear ha2
 unfold maxLen at hm2
 obtain⟨W0,hW0⟩:∃W0,W0=w.alloc (.cells #[.int .i64 Ae,.int .i64 Ax,.slice a2 Ao.length cap2] 78):=⟨_,rfl⟩
 have hEw:Ext w W0:=by rw[hW0];exact(Ext.refl _).alloc _
 have KX:Blk W0 w.heap.size 78 #[.int .i64 Ae,.int .i64 Ax,.slice a2 Ao.length cap2]:=by rw[hW0];exact Blk.new _ _ _
 have hLX:=KX.lt
 have I0:=KX.cell 0;have I1:=KX.cell 1;have I2:=KX.cell 2
 simp only[List.getElem?_toArray,List.getElem?_cons_zero,List.getElem?_cons_succ] at I0 I1 I2
 go_enter Tryz.func281,Tryz.ntmps281
 go_upto_region 1 with(fail)
 rw[<-hW0]
 clear hW0 KX
 cases p1:inb Ae 0 2000
 .
  go_wp2_with (first|(go_at_call 176;refine(Cf _ _ _ _).mono ?_;rintro e9 w9 ⟨rfl,rfl⟩;rw[p1])|(go_at_call 177;refine(Ey _ _).mono ?_;rintro e9 w9 ⟨rfl,rfl⟩;rw[p2])|(go_at_call 359;refine(Jb _ _ Ao (Ek.ext Aa)).mono ?_;rintro e9 w1 ⟨rfl,hx1⟩;rw[p5];have J0:=hx1.cell I0;have J1:=hx1.cell I1;have J2:=hx1.cell I2;have hLb:w.heap.size<w1.heap.size:=World.block_lt_of_cell? _ _ J0))
  go_ret
  exact⟨by rw[show Er (⟨Ae,Ax,Ao⟩:Df)=false from by simp[Er,p1]];try rfl,by exact Aa⟩
 cases p2:Ea Ax
 .
  go_wp2_with (first|(go_at_call 176;refine(Cf _ _ _ _).mono ?_;rintro e9 w9 ⟨rfl,rfl⟩;rw[p1])|(go_at_call 177;refine(Ey _ _).mono ?_;rintro e9 w9 ⟨rfl,rfl⟩;rw[p2])|(go_at_call 359;refine(Jb _ _ Ao (Ek.ext Aa)).mono ?_;rintro e9 w1 ⟨rfl,hx1⟩;rw[p5];have J0:=hx1.cell I0;have J1:=hx1.cell I1;have J2:=hx1.cell I2;have hLb:w.heap.size<w1.heap.size:=World.block_lt_of_cell? _ _ J0))
  go_ret
  exact⟨by rw[show Er (⟨Ae,Ax,Ao⟩:Df)=false from by simp[Er,p2]];try rfl,by exact Aa⟩
 obtain⟨b3,hb3⟩:∃b,b=(Ae == 0):=⟨_,rfl⟩
 obtain⟨b4,hb4⟩:∃b,b=(Ax != 0):=⟨_,rfl⟩
 by_cases hz:Ae=0/\Ax≠0
 .
  have hb3:(Ae == 0)=true:=by simpa using hz.1
  have hb4:(Ax != 0)=true:=by simpa using hz.2
  have HZ:=Lib.hid hz
  clear hz
  go_wp2_with (first|(go_at_call 176;refine(Cf _ _ _ _).mono ?_;rintro e9 w9 ⟨rfl,rfl⟩;rw[p1])|(go_at_call 177;refine(Ey _ _).mono ?_;rintro e9 w9 ⟨rfl,rfl⟩;rw[p2])|(go_at_call 359;refine(Jb _ _ Ao (Ek.ext Aa)).mono ?_;rintro e9 w1 ⟨rfl,hx1⟩;rw[p5];have J0:=hx1.cell I0;have J1:=hx1.cell I1;have J2:=hx1.cell I2;have hLb:w.heap.size<w1.heap.size:=World.block_lt_of_cell? _ _ J0))
  go_ret
  exact⟨by rw[show Er (⟨Ae,Ax,Ao⟩:Df)=false from by simp[Er,HZ.out.1,HZ.out.2]];try rfl,by exact Aa⟩
 have hbz:b3=true->b4=false:=by intro h;rw[hb3] at h;rw[hb4];simp at h ⊢;exact Classical.byContradiction fun h'=>hz ⟨h,h'⟩
 have HZ:=Lib.hid hz
 have HB3:=Lib.hid hb3.symm;have HB4:=Lib.hid hb4.symm
 clear hz hb3 hb4
 by_cases h20:Ao.length<=20
 rotate_left
 .
  have h20b:decide (20<Ao.length)=true:=by simp;omega
  have q3:=HB3.out;have q4:=HB4.out
  cases b3
  .
   go_wp2_with (first|(go_at_call 176;refine(Cf _ _ _ _).mono ?_;rintro e9 w9 ⟨rfl,rfl⟩;rw[p1])|(go_at_call 177;refine(Ey _ _).mono ?_;rintro e9 w9 ⟨rfl,rfl⟩;rw[p2])|(go_at_call 359;refine(Jb _ _ Ao (Ek.ext Aa)).mono ?_;rintro e9 w1 ⟨rfl,hx1⟩;rw[p5];have J0:=hx1.cell I0;have J1:=hx1.cell I1;have J2:=hx1.cell I2;have hLb:w.heap.size<w1.heap.size:=World.block_lt_of_cell? _ _ J0))
   go_ret
   exact⟨by rw[show Er (⟨Ae,Ax,Ao⟩:Df)=false from by simp[Er,h20]];try rfl,by exact Aa⟩
  have q5:=hbz rfl
  rw[q5] at q4
  go_wp2_with (first|(go_at_call 176;refine(Cf _ _ _ _).mono ?_;rintro e9 w9 ⟨rfl,rfl⟩;rw[p1])|(go_at_call 177;refine(Ey _ _).mono ?_;rintro e9 w9 ⟨rfl,rfl⟩;rw[p2])|(go_at_call 359;refine(Jb _ _ Ao (Ek.ext Aa)).mono ?_;rintro e9 w1 ⟨rfl,hx1⟩;rw[p5];have J0:=hx1.cell I0;have J1:=hx1.cell I1;have J2:=hx1.cell I2;have hLb:w.heap.size<w1.heap.size:=World.block_lt_of_cell? _ _ J0))
  go_ret
  exact⟨by rw[show Er (⟨Ae,Ax,Ao⟩:Df)=false from by simp[Er,h20]];try rfl,by exact Aa⟩
 have h20b:decide (20<Ao.length)=false:=by simp;omega
 cases p5:Jn Ao
 .
  have q3:=HB3.out;have q4:=HB4.out
  cases b3
  .
   go_wp2_with (first|(go_at_call 176;refine(Cf _ _ _ _).mono ?_;rintro e9 w9 ⟨rfl,rfl⟩;rw[p1])|(go_at_call 177;refine(Ey _ _).mono ?_;rintro e9 w9 ⟨rfl,rfl⟩;rw[p2])|(go_at_call 359;refine(Jb _ _ Ao (Ek.ext Aa)).mono ?_;rintro e9 w1 ⟨rfl,hx1⟩;rw[p5];have J0:=hx1.cell I0;have J1:=hx1.cell I1;have J2:=hx1.cell I2;have hLb:w.heap.size<w1.heap.size:=World.block_lt_of_cell? _ _ J0))
   go_ret
   exact⟨by rw[show Er (⟨Ae,Ax,Ao⟩:Df)=false from by simp[Er,p5]];try rfl,by exact Aa⟩
  have q5:=hbz rfl
  rw[q5] at q4
  go_wp2_with (first|(go_at_call 176;refine(Cf _ _ _ _).mono ?_;rintro e9 w9 ⟨rfl,rfl⟩;rw[p1])|(go_at_call 177;refine(Ey _ _).mono ?_;rintro e9 w9 ⟨rfl,rfl⟩;rw[p2])|(go_at_call 359;refine(Jb _ _ Ao (Ek.ext Aa)).mono ?_;rintro e9 w1 ⟨rfl,hx1⟩;rw[p5];have J0:=hx1.cell I0;have J1:=hx1.cell I1;have J2:=hx1.cell I2;have hLb:w.heap.size<w1.heap.size:=World.block_lt_of_cell? _ _ J0))
  go_ret
  exact⟨by rw[show Er (⟨Ae,Ax,Ao⟩:Df)=false from by simp[Er,p5]];try rfl,by exact Aa⟩
 have hpos:Er (⟨Ae,Ax,Ao⟩:Df)=Pm (⟨Ae,Ax,Ao⟩:Df):=by
  simp only[Er];rw[p1,p2,p5,show decide (Ao.length<=20)=true by simpa using h20]
  rw[show(decide (Ae=0)&&decide (Ax≠0))=false by have:=HZ.out;simp;intro h;exact Classical.byContradiction fun h'=>this ⟨h,h'⟩]
  rfl
 have HPOS:=Lib.hid hpos
 clear hpos
 go_cut [22] (fun cx0 wx=>cx0=.bool false/\Ext W0 wx)
 case first =>
  have q3:=HB3.out;have q4:=HB4.out
  cases b3
  .
   go_wp2_with (first|(go_at_call 176;refine(Cf _ _ _ _).mono ?_;rintro e9 w9 ⟨rfl,rfl⟩;rw[p1])|(go_at_call 177;refine(Ey _ _).mono ?_;rintro e9 w9 ⟨rfl,rfl⟩;rw[p2])|(go_at_call 359;refine(Jb _ _ Ao (Ek.ext Aa)).mono ?_;rintro e9 w1 ⟨rfl,hx1⟩;rw[p5];have J0:=hx1.cell I0;have J1:=hx1.cell I1;have J2:=hx1.cell I2;have hLb:w.heap.size<w1.heap.size:=World.block_lt_of_cell? _ _ J0))
   go_meet
   case rel=>exact⟨by first|rfl|(simp;done)|(simp;omega),by exact Aa⟩
  have q5:=hbz rfl
  rw[q5] at q4
  go_wp2_with (first|(go_at_call 176;refine(Cf _ _ _ _).mono ?_;rintro e9 w9 ⟨rfl,rfl⟩;rw[p1])|(go_at_call 177;refine(Ey _ _).mono ?_;rintro e9 w9 ⟨rfl,rfl⟩;rw[p2])|(go_at_call 359;refine(Jb _ _ Ao (Ek.ext Aa)).mono ?_;rintro e9 w1 ⟨rfl,hx1⟩;rw[p5];have J0:=hx1.cell I0;have J1:=hx1.cell I1;have J2:=hx1.cell I2;have hLb:w.heap.size<w1.heap.size:=World.block_lt_of_cell? _ _ J0))
  go_meet
  case rel=>exact⟨by first|rfl|(simp;done)|(simp;omega),by exact Aa⟩
 revert wc;intro w0 hcut
 obtain⟨rfl,hx0⟩:=hcut
 have hEw:=hEw.trans hx0
 have I0:=hx0.cell I0;have I1:=hx0.cell I1;have I2:=hx0.cell I2
 have hLb0:w.heap.size<w0.heap.size:=World.block_lt_of_cell? _ _ I0
 go_upto_region 5 with(first|(go_at_call 176;refine(Cf _ _ _ _).mono ?_;rintro e9 w9 ⟨rfl,rfl⟩;rw[p1])|(go_at_call 177;refine(Ey _ _).mono ?_;rintro e9 w9 ⟨rfl,rfl⟩;rw[p2])|(go_at_call 359;refine(Jb _ _ Ao (Ek.ext Aa)).mono ?_;rintro e9 w1 ⟨rfl,hx1⟩;rw[p5];have J0:=hx1.cell I0;have J1:=hx1.cell I1;have J2:=hx1.cell I2;have hLb:w.heap.size<w1.heap.size:=World.block_lt_of_cell? _ _ J0))
 skip
 obtain⟨wz,hwz⟩:∃wz,wz=w1:=⟨_,rfl⟩
 rw[<-hwz]
 have hEz:Ext W0 wz:=by rw[hwz];exact hx0.trans hx1
 have hEwz:Ext w wz:=by rw[hwz];exact hEw.trans hx1
 have J0:wz.cell? ⟨w.heap.size,0,none⟩=some (.int .i64 Ae):=by rw[hwz];exact J0
 have J1:wz.cell? ⟨w.heap.size,1,none⟩=some (.int .i64 Ax):=by rw[hwz];exact J1
 have J2:wz.cell? ⟨w.heap.size,2,none⟩=some (.slice a2 Ao.length cap2):=by rw[hwz];exact J2
 clear hwz
 by_cases hl0:Ao.length=0
 .
  have e1:Pm (⟨Ae,Ax,Ao⟩:Df)=true:=by rw[List.eq_nil_of_length_eq_zero hl0];rfl
  have l0b:((Ao.length:Int) == 0)=true:=by simpa using hl0
  have l0c:decide (Ao.length=0)=true:=by simpa using hl0
  have HE:=Lib.hid e1
  clear e1 hl0
  go_wp2_with fail
  go_quiet (fail)
  go_wp2_with fail
  go_ret
  exact⟨by rw[HPOS.out,HE.out];try rfl,by exact Aa⟩
 obtain⟨d,b1,o1,hd,rfl,hb1,c⟩:=HA.out 0 oM
 have d0:=hEwz.cell (c 0 _ dC rfl)
 have d1:=hEwz.cell (c 1 _ dC rfl)
 simp only[Nat.zero_mul,Nat.add_zero] at d0 d1
 have e1:Pm (⟨Ae,Ax,Ao⟩:Df)=(decide (d.Index=Ae+1)&&decide (Ax<=d.Time)):=by
  cases Ao with
  | nil=>simp at hd
  | cons x l=>simp at hd;subst hd;rfl
 have hwr:IntKind.i64.wrap (Ae+1)=Ae+1:=by have:=Dz.1 p1;rw[IntKind.wrap_i64] <;> omega
 have hpl:0<Ao.length:=by omega
 have l0b:((Ao.length:Int) == 0)=false:=by simpa using hl0
 have l0c:decide (Ao.length=0)=false:=by simpa using hl0
 have HE:=Lib.hid e1
 clear e1 hl0 c hd
 by_cases hi:d.Index=Ae+1
 .
  have hi1:(d.Index == Ae+1)=true:=by simpa using hi
  have hi2:decide (d.Index=Ae+1)=true:=by simpa using hi
  have HI:=Lib.hid hi2
  clear hi
  go_wp2_with fail
  go_quiet (fail)
  go_wp2_with fail
  go_ret
  exact⟨by rw[HPOS.out,HE.out,HI.out];first|rfl|(simp;done),by exact Aa⟩
 have hi1:(d.Index == Ae+1)=false:=by simpa using hi
 have hi2:decide (d.Index=Ae+1)=false:=by simpa using hi
 have HI:=Lib.hid hi2
 clear hi
 go_wp2_with fail
 go_quiet (fail)
 go_wp2_with fail
 go_ret
 exact⟨by rw[HPOS.out,HE.out,HI.out];first|rfl|(simp;done),by exact Aa⟩
theorem tI{B:Nat}{e:TypeId}{n:Nat}{w:World}{v:Value}{xs ys zs:List Int}(h:Own B e n w v (xs.map (.int .i64)++ys.map (.int .i64)++zs.map (.int .i64))):Af B e n w v (xs++ys++zs):=by
 rw[<-List.map_append,<-List.map_append] at h;exact h
theorem Vs{B:Nat}{e:TypeId}{n:Nat}{w:World}{v:Value}{xs ys:List Int}(h:Own B e n w v (xs.map (.int .i64)++ys.map (.int .i64))):Af B e n w v (xs++ys):=by
 rw[<-List.map_append] at h;exact h
theorem Sl.oneAtM(w:World)(cur:Array Value)(t:TypeId)(n b:Nat)(hb:b=w.heap.size)(hn:cur.size=n):Sl n (w.alloc (.cells cur t)) (.slice (some ⟨b,0,none⟩) 1 1) cur.toList:=by
 subst hb;exact Sl.one w cur t n hn
theorem Af.lit0m(w:World)(e:TypeId)(n:Nat):Af w.heap.size e n (w.alloc (.cells #[] e)) (.slice (some ⟨w.heap.size,0,none⟩) 0 0) [] :=
 Own.of_blk (cap:=0) (Blk.new w e #[]) (Nat.le_refl _) (by simp) (by simp) (Nat.le_refl _) dC (fun j hj=>by rw[Nat.zero_mul] at hj;omega)
theorem Mt(l:List Ar)(d:Ar):Cz (l++[d])=Cz l++[d.Client,d.Seq,d.Index]:=by simp[Cz,Ar.ints,List.flatMap_append]
theorem fC:(Tryz.prog.info? 290).map (fun i=>(i.zero,i.size,i.bytes))=some (some (.agg #[.int .i64 0,.int .i64 0,.int .i64 0]),3,24):=by kernel_rfl
theorem Ts(w:World)(v:Value)(l:List Ar)(h:Aj 3 w v (Cz l))(e0:l.length<=1000000):Calls Tryz.prog 378 #[v] w (Ret w fun r0 w'=>Af w.heap.size 290 3 w' r0 (Cz l)):=by
 obtain⟨a0,n0,k0,rfl⟩:=h.shape
 obtain⟨i0,hi,hz0,hz1,hz2⟩:=info_parts fC
 go_enter Tryz.func378,Tryz.ntmps378
 go_wp2_with (first|(at_builtin;refine Kx rfl (.tmp 3) (.tmp 4) 73 rfl 290 i0 _ 3 24 Tryz.underlying73 hi hz0 hz1 hz2 rfl dC w.heap.size (by simp) rfl (.slice a0 n0 k0) ((Cz l).map (.int .i64)) rfl h (ints_oneCell _ _) 1000000 (by have:=Hv l;simp;omega) (by unfold maxLen;omega) oM ?_;rotate_right;intro t5 w1 g5 hx1;obtain⟨ta5,tn5,tc5,rfl⟩:=g5.sl.shape))
 go_ret
 exact⟨_,rfl,hx1,g5⟩
theorem Vt(w:World)(v:Value)(l:List Ar)(h:Aj 3 w v (Cz l))(e0:l.length<=1000000):Calls Tryz.prog 360 #[v] w (Ret w fun r0 w'=>Af w.heap.size 290 3 w' r0 (Cz l)):=by
 obtain⟨a0,n0,k0,rfl⟩:=h.shape
 obtain⟨i0,hi,hz0,hz1,hz2⟩:=info_parts fC
 go_enter Tryz.func360,Tryz.ntmps360
 go_wp2_with (first|(at_builtin;refine Kx rfl (.tmp 3) (.tmp 4) 73 rfl 290 i0 _ 3 24 Tryz.underlying73 hi hz0 hz1 hz2 rfl dC w.heap.size (by simp) rfl (.slice a0 n0 k0) ((Cz l).map (.int .i64)) rfl h (ints_oneCell _ _) 1000000 (by have:=Hv l;simp;omega) (by unfold maxLen;omega) oM ?_;rotate_right;intro t5 w1 g5 hx1;obtain⟨ta5,tn5,tc5,rfl⟩:=g5.sl.shape))
 go_ret
 exact⟨_,rfl,hx1,g5⟩
theorem qG(l:List Ar)(x:Ar):(Ed l x).length<=l.length+1:=by
 induction l with
 | nil=>simp[Ed]
 | cons y l ih=>rw[Ed];split <;> (try split) <;> simp <;> omega
theorem tJ{p:Prop}(h:p:=by intro KQ hKQ;(repeat (first|go_big_quiet_skip|(go_big_quiet_want;first|(refine Br _ _ _ ?_ rfl rfl (fun wq hq=>?_) ?_;rotate_left;(focus((try have y0:=hq.cell x0);(try have y1:=hq.cell x1);(try have y2:=hq.cell x2);(try have y3:=hq.cell x3);(try have y4:=hq.cell x4);(try have y5:=hq.cell x5);(try have y6:=hq.cell x6);(try have y7:=hq.cell x7);(try have y8:=hq.cell x8);go_simp;first|done|rfl));(try simp only[Ab,Act.put]);go_big_quiet_on)|(go_big_quiet_op;first|go_big_quiet_on|(refine⟨_,fun _ _=>rfl,?_⟩;go_big_quiet_on)|(apply Exists.intro;refine⟨fun wq hq=>?_,?_⟩;(focus(first|exact Cv hq (by have c:=Nr wq e.Index e.Time e.Client e.Seq e.Op.Kind e.Op.A e.Op.B e.Op.C e.Op.D;rw[show Dt (⟨e.Index,e.Time,e.Client,e.Seq,⟨e.Op.Kind,e.Op.A,e.Op.B,e.Op.C,e.Op.D⟩⟩:Aq)=false from hp] at c;exact c)|exact Cv hq (by have c:=dG wq _ s e.Client e.Seq (h.ext (hE1.trans hq)) HS.out p3 p4;rw[hf] at c;exact c)|exact Cv hq (Tn wq _ s (h.ext (hE1.trans hq)) HS.out)));go_big_quiet_on)))));exact wpQuiet_nil hKQ):p:=h
theorem fD{p:Prop}(h:p:=by intro KQ hKQ;(repeat (first|go_big_quiet_skip|(go_big_quiet_want;first|(refine Br _ _ _ ?_ rfl rfl (fun wq hq=>?_) ?_;rotate_left;(focus((try have y0:=hq.cell x0);(try have y1:=hq.cell x1);(try have y2:=hq.cell x2);(try have y3:=hq.cell x3);(try have y4:=hq.cell x4);(try have y5:=hq.cell x5);(try have y6:=hq.cell x6);(try have y7:=hq.cell x7);(try have y8:=hq.cell x8);go_simp;first|done|rfl));(try simp only[Ab,Act.put]);go_big_quiet_on)|(go_big_quiet_op;first|go_big_quiet_on|(refine⟨_,fun _ _=>rfl,?_⟩;go_big_quiet_on)|(apply Exists.intro;refine⟨fun wq hq=>?_,?_⟩;(focus(first|exact Cv hq (by have c:=Nr wq e.Index e.Time e.Client e.Seq e.Op.Kind e.Op.A e.Op.B e.Op.C e.Op.D;rw[show Dt (⟨e.Index,e.Time,e.Client,e.Seq,⟨e.Op.Kind,e.Op.A,e.Op.B,e.Op.C,e.Op.D⟩⟩:Aq)=true from hp] at c;exact c)|exact Cv hq (by have c:=dG wq _ s e.Client e.Seq (h.ext (hE1.trans hq)) HS.out p3 p4;rw[hf] at c;exact c)|exact Cv hq (Tn wq _ s (h.ext (hE1.trans hq)) HS.out)));go_big_quiet_on)))));exact wpQuiet_nil hKQ):p:=h
theorem qH(w:World)(v:Value)(s:List Ar)(e:Aq)(h:Aj 3 w v (Cz s))(hs:Ii s=true):Calls Tryz.prog 379 #[v,.agg #[.int .i64 e.Index,.int .i64 e.Time,.int .i64 e.Client,.int .i64 e.Seq,.int .i64 e.Op.Kind,.int .i64 e.Op.A,.int .i64 e.Op.B,.int .i64 e.Op.C,.int .i64 e.Op.D]] w (Ret w fun r w'=>∃u,r=.tuple #[u,.bool (Es s e).isSome]/\Af w.heap.size 290 3 w' u (Cz ((Es s e).getD s))):=by
 have HH:=h
 have hlen:=(Jv.1 hs).len
 obtain⟨a,cap,rfl,hcap,hm,ha⟩:=h.recs (f:=Ar.ints) (fun _=>rfl) dC
 have HA:=Lib.hid ha;have HS:=Lib.hid hs;have HLEN:=Lib.hid hlen
 clear ha hs
 unfold maxLen at hm
 obtain⟨i0,hi,hz0,hz1,hz2⟩:=info_parts fC
 obtain⟨W0,hW0⟩:∃W0,W0=w.alloc (.cells #[.int .i64 e.Index,.int .i64 e.Time,.int .i64 e.Client,.int .i64 e.Seq,.int .i64 e.Op.Kind,.int .i64 e.Op.A,.int .i64 e.Op.B,.int .i64 e.Op.C,.int .i64 e.Op.D] 281):=⟨_,rfl⟩
 have hE0:Ext w W0:=by rw[hW0];exact(Ext.refl _).alloc _
 have K0:Blk W0 w.heap.size 281 #[.int .i64 e.Index,.int .i64 e.Time,.int .i64 e.Client,.int .i64 e.Seq,.int .i64 e.Op.Kind,.int .i64 e.Op.A,.int .i64 e.Op.B,.int .i64 e.Op.C,.int .i64 e.Op.D]:=by rw[hW0];exact Blk.new _ _ _
 go_enter Tryz.func379,Tryz.ntmps379
 go_wp2_with fail
 rw[<-hW0]
 clear hW0
 refine(Ob _ _ s (HH.ext hE0)).mono ?_
 rintro e1 w1⟨rfl,hx1⟩
 rw[HS.out]
 have hE1:=hE0.trans hx1
 have K1:=K0.ext hx1
 have x0:w1.cell? ⟨w.heap.size,0,none⟩=some (.int .i64 e.Index):=K1.cell 0
 have x1:w1.cell? ⟨w.heap.size,1,none⟩=some (.int .i64 e.Time):=K1.cell 1
 have x2:w1.cell? ⟨w.heap.size,2,none⟩=some (.int .i64 e.Client):=K1.cell 2
 have x3:w1.cell? ⟨w.heap.size,3,none⟩=some (.int .i64 e.Seq):=K1.cell 3
 have x4:w1.cell? ⟨w.heap.size,4,none⟩=some (.int .i64 e.Op.Kind):=K1.cell 4
 have x5:w1.cell? ⟨w.heap.size,5,none⟩=some (.int .i64 e.Op.A):=K1.cell 5
 have x6:w1.cell? ⟨w.heap.size,6,none⟩=some (.int .i64 e.Op.B):=K1.cell 6
 have x7:w1.cell? ⟨w.heap.size,7,none⟩=some (.int .i64 e.Op.C):=K1.cell 7
 have x8:w1.cell? ⟨w.heap.size,8,none⟩=some (.int .i64 e.Op.D):=K1.cell 8
 clear K0
 cases hp:Dt e
 .
  have hn:Es s e=none:=by simp[Es,hp]
  have HN:=Lib.hid hn
  clear hn
  go_upto_region 3 with(fail)
  refine rx0 tJ fun w2 hx2=>?_
  go_wp2_with fail
  refine(Ts _ _ s (h.ext (hE1.trans hx2)) oM).mono ?_
  rintro e9 w3⟨t9,rfl,hx3,g3⟩
  obtain⟨ta,tn,tc,rfl⟩:=g3.ints.shape
  go_wp2_with fail
  go_ret2
  exact⟨_,rfl,by exact Aa,_,by rw[HN.out];rfl,by rw[HN.out];exact g3.mono (by have h1:=hE1.size;have h2:=hx2.size;omega)⟩
 obtain⟨p1,p2,p5,p6,q1,q2,q3,q4,p7⟩:=Ki hp
 have p3:inb e.Client 2 5=true:=dS q1 q2
 have p4:inb e.Seq 1 2000=true:=dS q3 q4
 by_cases hq:(Fp s e.Client).Seq<e.Seq
 rotate_left
 .
  have hn:Es s e=none:=by simp[Es,hq]
  have HN:=Lib.hid hn
  have hf:decide ((Fp s e.Client).Seq<e.Seq)=false:=by simpa using hq
  clear hn hq
  go_upto_region 3 with(fail)
  refine rx0 fD fun w2 hx2=>?_
  go_wp2_with fail
  refine(Ts _ _ s (h.ext (hE1.trans hx2)) oM).mono ?_
  rintro e9 w3⟨t9,rfl,hx3,g3⟩
  obtain⟨ta,tn,tc,rfl⟩:=g3.ints.shape
  go_wp2_with fail
  go_ret2
  exact⟨_,rfl,by exact Aa,_,by rw[HN.out];rfl,by rw[HN.out];exact g3.mono (by have h1:=hE1.size;have h2:=hx2.size;omega)⟩
 have hf:decide ((Fp s e.Client).Seq<e.Seq)=true:=by simpa using hq
 by_cases hl:e.Index<=Ej s
 .
  have hn:Es s e=none:=by simp[Es];omega
  have HN:=Lib.hid hn
  have hl1:decide (e.Index<=Ej s)=true:=by simpa using hl
  clear hn hq hl
  go_upto_region 3 with(fail)
  refine rx0 fD fun w2 hx2=>?_
  go_wp2_with fail
  refine(Ts _ _ s (h.ext (hE1.trans hx2)) oM).mono ?_
  rintro e9 w3⟨t9,rfl,hx3,g3⟩
  obtain⟨ta,tn,tc,rfl⟩:=g3.ints.shape
  go_wp2_with fail
  go_ret2
  exact⟨_,rfl,by exact Aa,_,by rw[HN.out];rfl,by rw[HN.out];exact g3.mono (by have h1:=hE1.size;have h2:=hx2.size;omega)⟩
 have hn:Es s e=some (Ed s (Kg e)):=by simp[Es,hp];omega
 have HN:=Lib.hid hn
 have hl1:decide (e.Index<=Ej s)=false:=by simpa using hl
 clear hn hq hl
 go_upto_region 3 with(fail)
 refine rx0 fD fun w2 hx2=>?_
 clear hf hl1
 have hE2:=hE1.trans hx2
 have K2:=K1.ext hx2
 obtain⟨C2,F2,L2⟩:=K2.cfl
 go_upto_region 6 with(fail)
 obtain⟨W5,hW5⟩:∃W5,W5=w2.alloc (.cells #[.int .i64 e.Client,.int .i64 e.Seq,.int .i64 e.Index] 290):=⟨_,rfl⟩
 have hx5:Ext w2 W5:=by rw[hW5];exact(Ext.refl _).alloc _
 have KX:Blk W5 w2.heap.size 290 #[.int .i64 e.Client,.int .i64 e.Seq,.int .i64 e.Index]:=by rw[hW5];exact Blk.new _ _ _
 rw[<-hW5]
 clear hW5 C2 F2 L2 x0 x1 x2 x3 x4 x5 x6 x7 x8 K1
 have K5:=K2.ext hx5
 have hE5:=hE2.trans hx5
 have LX:=KX.lt
 go_wp2_with fail
 go_loopw [7,8,9] (fun out dn ii wr=>∃(k:Nat) (b:Bool),k<=s.length/\ii=.int .i64 k/\dn=.bool b/\Ext W5 wr/\Af W5.heap.size 290 3 wr out (Cz (if b then Ed (s.take k) (Kg e) else s.take k))/\Hid (b=false->∀m,m ∈ s.take k->m.Client<e.Client)/\Hid (b=true->∃m,m ∈ s.take k/\e.Client<=m.Client)) (fun _ _ ii _=>s.length - (intOf ii).toNat)
 case atStart=>exact⟨0,false,Nat.zero_le _,rfl,rfl,(Ext.refl _).alloc _,Af.lit0m W5 _ _,Lib.hid (fun _ m hm=>by simp at hm),Lib.hid (fun h=>by cases h)⟩
 case round =>
  obtain⟨k,b,hk,rfl,rfl,he,hown,HF,HT⟩:=hrel
  have hzr:=he.size
  obtain⟨a1,n1,c1,rfl,-,-,-⟩:=hown.open_
  have CE:=(K5.ext he).cell;have CX:=(KX.ext he).cell
  have LE:=(K5.ext he).lt;have LX2:=(KX.ext he).lt
  have hlp:=qG (s.take k) (Kg e)
  have hlt2:(s.take k).length<=k:=by simp;omega
  by_cases hlt:k<s.length
  .
   obtain⟨d,b1,o1,hd,rfl,hb1,c⟩:=HA.out k hlt
   have d0:=(hE5.trans he).cell (c 0 _ dC rfl)
   have d1:=(hE5.trans he).cell (c 1 _ dC rfl)
   have d2:=(hE5.trans he).cell (c 2 _ dC rfl)
   simp only[Nat.add_zero] at d0
   have HD:=Lib.hid hd
   have hts:s.take (k+1)=s.take k++[d]:=by rw[List.take_add_one,hd];rfl
   have HTS:=Lib.hid hts
   clear c hd hts
   cases b
   .
    rw[if_neg dC] at hown
    by_cases hge:e.Client<=d.Client
    .
     have hge1:decide (e.Client<=d.Client)=true:=by simpa using hge
     by_cases hne:d.Client=e.Client
     .
      have hne1:(d.Client != e.Client)=false:=by simpa using hne
      have hne2:decide (d.Client=e.Client)=true:=by simpa using hne
      have HG:=Lib.hid hge;have HNE:=Lib.hid hne
      clear hge hne
      go_wp2_with fail
      go_quiet (fail)
      go_wp2_with (first|(at_builtin;refine Fg rfl _ _ 73 rfl 290 i0 _ 3 24 Tryz.underlying73 hi hz0 hz1 hz2 rfl dC (W5.heap.size) _ _ rfl (Own.ext hown Aa) _ (([e.Client,e.Seq,e.Index]:List Int).map (.int .i64)) rfl (Sl.oneAtM _ #[.int .i64 e.Client,.int .i64 e.Seq,.int .i64 e.Index] _ 3 _ (by first|rfl|simp) rfl) (ints_oneCell _ _) 1000 (by have:=HLEN.out;simp only[List.length_map,List.length_cons,List.length_nil,List.length_append,Hv];omega) (by unfold maxLen;omega) oM (by simp;omega) W5 Aa oM ?_;rotate_right;intro v1 wa1 hown1 hea1 _;have hza1:=hea1.size))
      have d01:=hea1.cells
      have CE1:=(K5.ext hea1).cell;have CX1:=(KX.ext hea1).cell
      have y0:=(hE5.trans hea1).cell (show w.cell? ⟨b1,o1+k*3,none⟩=some (.int .i64 d.Client) from by have:=(HA.out k hlt);obtain⟨d',b',o',hd',hb',_,c'⟩:=this;injection hb' with hb';injection hb' with q1 q2 q3;subst q1;subst q2;rw[HD.out] at hd';obtain rfl:=Option.some.inj hd';simpa using c' 0 _ dC rfl)
      clear CE CX d0 d1 d2 d01
      go_wp2_with fail
      go_quiet (fail)
      go_wp2_with fail
      go_roundw
      case rel=>exact⟨k+1,true,by omega,by go_num,rfl,by exact Aa,Oj (Af.ext (Vs hown1) Aa) (by
       rw[if_pos rfl,HTS.out,aC (HF.out (by trivial)),show Ed [d] (Kg e)=[Kg e] from by rw[Ed,if_neg (show ¬ (Kg e).Client<d.Client from by have:=HNE.out;show ¬ e.Client<d.Client;omega),if_pos (show(Kg e).Client=d.Client from HNE.out.symm)],Mt];try rfl),Lib.hid (fun h=>by cases h),Lib.hid (fun _=>⟨d,by rw[HTS.out];simp,HG.out⟩)⟩
      case measure=>simp[intOf];omega
     have hne1:(d.Client != e.Client)=true:=by simpa using hne
     have hne2:decide (d.Client=e.Client)=false:=by simpa using hne
     have HG:=Lib.hid hge;have HNE:=Lib.hid hne
     clear hge hne
     go_wp2_with fail
     go_quiet (fail)
     go_wp2_with (first|(at_builtin;refine Fg rfl _ _ 73 rfl 290 i0 _ 3 24 Tryz.underlying73 hi hz0 hz1 hz2 rfl dC (W5.heap.size) _ _ rfl (Own.ext hown Aa) _ (([e.Client,e.Seq,e.Index]:List Int).map (.int .i64)) rfl (Sl.oneAtM _ #[.int .i64 e.Client,.int .i64 e.Seq,.int .i64 e.Index] _ 3 _ (by first|rfl|simp) rfl) (ints_oneCell _ _) 1000 (by have:=HLEN.out;simp only[List.length_map,List.length_cons,List.length_nil,List.length_append,Hv];omega) (by unfold maxLen;omega) oM (by simp;omega) W5 Aa oM ?_;rotate_right;intro v1 wa1 hown1 hea1 _;have hza1:=hea1.size))
     have CE1:=(K5.ext hea1).cell;have CX1:=(KX.ext hea1).cell
     have hyy:∀j u,j<3->(Ar.ints d)[j]?=some u->wa1.cell? ⟨b1,o1+k*3+j,none⟩=some (.int .i64 u):=fun j u hj hu=>by
      obtain⟨d',b',o',hd',hb',_,c'⟩:=HA.out k hlt
      injection hb' with hb';injection hb' with q1 q2 q3;subst q1;subst q2;rw[HD.out] at hd';obtain rfl:=Option.some.inj hd'
      exact(hE5.trans hea1).cell (c' j u hj hu)
     have y0:=hyy 0 _ dC rfl;have y1:=hyy 1 _ dC rfl;have y2:=hyy 2 _ dC rfl
     simp only[Nat.add_zero] at y0
     clear CE CX d0 d1 d2 hyy
     go_wp2_with fail
     go_quiet (fail)
     go_wp2_with (first|(at_builtin;refine Fg rfl _ _ 73 rfl 290 i0 _ 3 24 Tryz.underlying73 hi hz0 hz1 hz2 rfl dC (W5.heap.size) _ _ rfl (Own.ext hown1 Aa) _ (([d.Client,d.Seq,d.Index]:List Int).map (.int .i64)) rfl (Sl.oneAtM _ #[.int .i64 d.Client,.int .i64 d.Seq,.int .i64 d.Index] _ 3 _ (by first|rfl|simp) rfl) (ints_oneCell _ _) 1000 (by have:=HLEN.out;simp only[List.length_map,List.length_cons,List.length_nil,List.length_append,Hv];omega) (by unfold maxLen;omega) oM (by simp;omega) W5 Aa oM ?_;rotate_right;intro v2 wa2 hown2 hea2 _;have hza2:=hea2.size))
     go_roundw
     case rel=>exact⟨k+1,true,by omega,by go_num,rfl,hea2,Oj (tI hown2) (by
      rw[if_pos rfl,HTS.out,aC (HF.out (by trivial)),show Ed [d] (Kg e)=[Kg e,d] from by rw[Ed,if_pos (show(Kg e).Client<d.Client from by have:=HNE.out;have:=HG.out;show e.Client<d.Client;omega)],show s.take k++[Kg e,d]=s.take k++[Kg e]++[d] by simp,Mt,Mt];try rfl),Lib.hid (fun h=>by cases h),Lib.hid (fun _=>⟨d,by rw[HTS.out];simp,HG.out⟩)⟩
     case measure=>simp[intOf];omega
    have hge1:decide (e.Client<=d.Client)=false:=by simpa using hge
    have hne1:(d.Client != e.Client)=true:=by simp;omega
    have hne2:decide (d.Client=e.Client)=false:=by simp;omega
    have HG:=Lib.hid hge
    clear hge
    go_wp2_with fail
    go_quiet (fail)
    go_wp2_with fail
    go_quiet (fail)
    go_wp2_with (first|(at_builtin;refine Fg rfl _ _ 73 rfl 290 i0 _ 3 24 Tryz.underlying73 hi hz0 hz1 hz2 rfl dC (W5.heap.size) _ _ rfl (Own.ext hown Aa) _ (([d.Client,d.Seq,d.Index]:List Int).map (.int .i64)) rfl (Sl.oneAtM _ #[.int .i64 d.Client,.int .i64 d.Seq,.int .i64 d.Index] _ 3 _ (by first|rfl|simp) rfl) (ints_oneCell _ _) 1000 (by have:=HLEN.out;simp only[List.length_map,List.length_cons,List.length_nil,List.length_append,Hv];omega) (by unfold maxLen;omega) oM (by simp;omega) W5 Aa oM ?_;rotate_right;intro v2 wa2 hown2 hea2 _;have hza2:=hea2.size))
    go_roundw
    case rel=>exact⟨k+1,false,by omega,by go_num,rfl,hea2,Oj (Vs hown2) (by rw[if_neg dC,HTS.out,Mt];try rfl),Lib.hid (fun _ m hm=>by
      rw[HTS.out] at hm
      rcases List.mem_append.1 hm with hm|hm
      .
       exact HF.out (by trivial) m hm
      simp at hm;subst hm;have:=HG.out;omega),Lib.hid (fun h=>by cases h)⟩
    case measure=>simp[intOf];omega
   rw[if_pos rfl] at hown
   have hne:d.Client≠e.Client:=by
    obtain⟨m,hm,hme⟩:=HT.out (by trivial)
    obtain⟨i,hi9,him⟩:=List.getElem_of_mem hm
    have hik:i<k:=by simp at hi9;omega
    have hp9:=List.pairwise_iff_getElem.1 (Jv.1 HS.out).2 i k oM hlt hik
    have e1:s[i]=m:=by rw[<-him];simp
    have e2:s[k]=d:=(List.getElem?_eq_some_iff.1 HD.out).2
    rw[e1,e2] at hp9
    omega
   have hne1:(d.Client != e.Client)=true:=by simpa using hne
   have hne2:decide (d.Client=e.Client)=false:=by simpa using hne
   clear hne
   go_wp2_with fail
   go_quiet (fail)
   go_wp2_with fail
   go_quiet (fail)
   go_wp2_with (first|(at_builtin;refine Fg rfl _ _ 73 rfl 290 i0 _ 3 24 Tryz.underlying73 hi hz0 hz1 hz2 rfl dC (W5.heap.size) _ _ rfl (Own.ext hown Aa) _ (([d.Client,d.Seq,d.Index]:List Int).map (.int .i64)) rfl (Sl.oneAtM _ #[.int .i64 d.Client,.int .i64 d.Seq,.int .i64 d.Index] _ 3 _ (by first|rfl|simp) rfl) (ints_oneCell _ _) 1000 (by have:=HLEN.out;simp only[List.length_map,List.length_cons,List.length_nil,List.length_append,Hv];omega) (by unfold maxLen;omega) oM (by simp;omega) W5 Aa oM ?_;rotate_right;intro v2 wa2 hown2 hea2 _;have hza2:=hea2.size))
   go_roundw
   case rel=>exact⟨k+1,true,by omega,by go_num,rfl,hea2,Oj (Vs hown2) (by rw[if_pos rfl,HTS.out,pW (HT.out (by trivial)),Mt];try rfl),Lib.hid (fun h=>by cases h),Lib.hid (fun _=>by
     obtain⟨m,hm,hme⟩:=HT.out (by trivial)
     exact⟨m,by rw[HTS.out];exact List.mem_append_left _ hm,hme⟩)⟩
   case measure=>simp[intOf];omega
  obtain rfl:k=s.length:=by omega
  rw[List.take_length] at hown HF HT
  cases b
  .
   rw[if_neg dC] at hown
   go_wp2_with (first|(at_builtin;refine Fg rfl _ _ 73 rfl 290 i0 _ 3 24 Tryz.underlying73 hi hz0 hz1 hz2 rfl dC (W5.heap.size) _ _ rfl (Own.ext hown Aa) _ (([e.Client,e.Seq,e.Index]:List Int).map (.int .i64)) rfl (Sl.oneAtM _ #[.int .i64 e.Client,.int .i64 e.Seq,.int .i64 e.Index] _ 3 _ (by first|rfl|simp) rfl) (ints_oneCell _ _) 1000 (by have:=HLEN.out;simp only[List.length_map,List.length_cons,List.length_nil,List.length_append,Hv];omega) (by unfold maxLen;omega) oM (by simp;omega) W5 Aa oM ?_;rotate_right;intro v1 wa1 hown1 hea1 _;have hza1:=hea1.size))
   obtain⟨ta,tn,tc,rfl⟩:=(Af.ints (Vs hown1)).shape
   go_ret2
   refine⟨_,rfl,hE5.trans hea1,_,by rw[HN.out];rfl,?_⟩
   rw[HN.out]
   show Af w.heap.size 290 3 wa1 _ (Cz (Ed s (Kg e)))
   refine Af.mono (Oj (Vs hown1) ?_) (by have:=hE5.size;omega)
   have h9:=aC (A:=s) (B:=[]) (x:=Kg e) (HF.out (by trivial))
   rw[List.append_nil] at h9
   rw[h9,show Ed [] (Kg e)=[Kg e] from rfl,Mt];rfl
  rw[if_pos rfl] at hown
  go_wp2_with fail
  go_ret2
  refine⟨_,rfl,hE5.trans he,_,by rw[HN.out];rfl,?_⟩
  rw[HN.out]
  exact hown.mono (by have:=hE5.size;omega)
theorem Yk(w:World)(v u:Value)(s:List Ar)(l:List Aq)(h:Aj 3 w v (Cz s))(h2:Aj 9 w u (Ds l))(hs:Ii s=true)(hl:l.length<=2000):Calls Tryz.prog 307 #[v,u] w (Ret w fun r w'=>∃x,r=.tuple #[x,.bool (Dn s l).isSome]/\Af w.heap.size 290 3 w' x (Cz ((Dn s l).getD s))):=by
 have hlen:=(Jv.1 hs).len
 obtain⟨av,nv,cv,rfl⟩:=h.shape
 obtain⟨a,cap,rfl,hcap,hm,ha⟩:=h2.recs (f:=Aq.ints) (fun _=>rfl) dC
 have HA:=Lib.hid ha;have HS:=Lib.hid hs
 clear ha hs
 unfold maxLen at hm
 go_enter Tryz.func307,Tryz.ntmps307
 go_wp2_with fail
 refine(Ob _ _ s h).mono ?_
 rintro e1 w1⟨rfl,hx1⟩
 rw[HS.out]
 go_wp2_with fail
 refine(Ts _ _ s (h.ext hx1) oM).mono ?_
 rintro e2 w2⟨t2,rfl,hx2,g2⟩
 obtain⟨a2,n2,c2,rfl⟩:=g2.ints.shape
 have hE2:=hx1.trans hx2
 go_wp2_with fail
 go_loopw [6,7] (fun out ii wr=>∃(k:Nat) (t:List Ar),k<=l.length/\ii=.int .i64 k/\Ext w wr/\Af w.heap.size 290 3 wr out (Cz t)/\Hid (Dn s (l.take k)=some t)) (fun _ ii _=>l.length - (intOf ii).toNat)
 case atStart=>exact⟨0,s,Nat.zero_le _,rfl,hE2,g2.mono hx1.size,Lib.hid rfl⟩
 case round =>
  obtain⟨k,t,hk,rfl,he,hout,HT⟩:=hrel
  obtain⟨a3,n3,c3,rfl⟩:=hout.ints.shape
  by_cases hlt:k<l.length
  .
   obtain⟨d,b1,o1,hd,rfl,hb1,c⟩:=HA.out k hlt
   have d0:=he.cell (c 0 _ dC rfl)
   have d1:=he.cell (c 1 _ dC rfl)
   have d2:=he.cell (c 2 _ dC rfl)
   have d3:=he.cell (c 3 _ dC rfl)
   have d4:=he.cell (c 4 _ dC rfl)
   have d5:=he.cell (c 5 _ dC rfl)
   have d6:=he.cell (c 6 _ dC rfl)
   have d7:=he.cell (c 7 _ dC rfl)
   have d8:=he.cell (c 8 _ dC rfl)
   simp only[Nat.add_zero] at d0
   have HD:=Lib.hid hd
   clear c hd
   go_wp2_with fail
   refine(qH _ _ t d hout.ints (Jq (Qz (Jv.1 HS.out) HT.out))).mono ?_
   rintro e3 w3⟨_,rfl,hx3,r3,rfl,g3⟩
   obtain⟨a4,n4,c4,rfl⟩:=g3.ints.shape
   clear d0 d1 d2 d3 d4 d5 d6 d7 d8
   cases hst:Es t d with
   | none =>
    rw[hst] at g3
    have hn:Dn s l=none:=Oh HD.out HT.out hst
    have HN:=Lib.hid hn
    clear hn hst
    go_wp2_with fail
    refine(Ts _ _ s (h.ext (he.trans hx3)) oM).mono ?_
    rintro e4 w4⟨t4,rfl,hx4,g4⟩
    obtain⟨a5,n5,c5,rfl⟩:=g4.ints.shape
    go_wp2_with fail
    go_ret2
    exact⟨_,rfl,by exact Aa,_,by rw[HN.out];rfl,by rw[HN.out];exact g4.mono (by have h1:=(he.trans hx3).size;omega)⟩
   | some t' =>
    rw[hst] at g3
    have hn:Dn s (l.take (k+1))=some t':=by rw[Rj HD.out HT.out,hst]
    have HN:=Lib.hid hn
    clear hn hst
    go_wp2_with fail
    go_roundw
    case rel=>exact⟨k+1,t',by omega,by go_num,he.trans hx3,g3.mono he.size,HN⟩
    case measure=>simp[intOf];omega
  obtain rfl:k=l.length:=by omega
  rw[List.take_length] at HT
  go_wp2_with fail
  go_ret2
  exact⟨_,rfl,he,_,by rw[HT.out];rfl,by rw[HT.out];exact hout⟩
section
open Go.Proofs.YtkpmbocbbgocbaaGreat Go.Maps
def Tt:Value->Option (DataW Unit × List MemPlace)
 | .agg cs=>match cs.toList with
  | [.int .i64 c,.int .i64 s,.int .i64 i]=>some (.agg [.lit (.int .i64 c),.lit (.int .i64 s),.lit (.int .i64 i)],[])
  | _=>none
 | _=>none
def qI(m:Ar):DataW Unit:=.agg [.lit (.int .i64 m.Client),.lit (.int .i64 m.Seq),.lit (.int .i64 m.Index)]
def fE(m:Ar):Value:=.agg #[.int .i64 m.Client,.int .i64 m.Seq,.int .i64 m.Index]
theorem Tv(m:Ar):Tt (fE m)=some (qI m,[]):=rfl
theorem Wm{v:Value}{m:Ar}{ps:List MemPlace}(h:Tt v=some (qI m,ps)):v=fE m:=by
 unfold Tt at h
 split at h
 .
  rename_i cs
  split at h
  .
   rename_i c s i hl
   injection h with h;injection h with h _
   unfold qI at h
   injection h with h;injection h with h1 h;injection h with h2 h;injection h with h3 _
   injection h1 with h1;injection h1 with _ h1;injection h2 with h2;injection h2 with _ h2;injection h3 with h3;injection h3 with _ h3
   subst h1;subst h2;subst h3
   have:cs=#[.int .i64 m.Client,.int .i64 m.Seq,.int .i64 m.Index]:=by
    apply Array.toList_inj.1;exact hl
   rw[this];rfl
  cases h
 cases h
def Pg(P:Program)(k:TypeId)(w:World)(b n:Nat)(M:Int->Option Ar):Prop :=
 ∃D:DataW Unit,w.ownsMap P k Tt b n D/\Go.Maps.IsMap D/\∀x,(Lit.int .i64 x).wf=true->D.atKey (.int .i64 x) (qI Tl)=qI ((M x).getD Tl)/\Go.Maps.has D (.int .i64 x)=(M x).isSome
section
variable {P:Program} {k e:TypeId} {w w':World} {b n:Nat} {M:Int->Option Ar}
theorem Pg.made(P:Program)(k:TypeId)(w:World):Pg P k (w.alloc (.map #[] 0)) w.heap.size 0 (fun _=>none) :=
 ⟨.map [],World.ownsMap_made _ _ _ _,Go.Maps.isMap_empty,fun x _=>⟨by simp[DataW.atKey],rfl⟩⟩
theorem Pg.lt(h:Pg P k w b n M):b<w.heap.size:=by obtain⟨D,h,_⟩:=h;exact h.lt
theorem Pg.kept{row:Option Nat}(h:Pg P k w b n M)(hg:w.grownBy w' row)(hne:some b≠row):Pg P k w' b n M:=by
 obtain⟨D,h,h1,h2⟩:=h
 exact⟨D,h.kept hg hne,h1,h2⟩
theorem Pg.ext(h:Pg P k w b n M)(x:Ext w w'):Pg P k w' b n M:=h.kept x.grown (by simp)
theorem Pg.cast{M':Int->Option Ar}(h:Pg P k w b n M)(e:∀x,M x=M' x):Pg P k w b n M':=by
 obtain⟨D,h,h1,h2⟩:=h
 exact⟨D,h,h1,fun x hx=>by rw[<-e x];exact h2 x hx⟩
theorem Pg.look{t:TypeId}(h:Pg P k w b n M)(hk:P.underlying k=some (.int .i64))(ht:P.underlying t=some (.map k e))(hz:(zeroValue e).run P w=.ok (fE Tl) w)
  {x:Int} (hx:(Lit.int .i64 x).wf=true):(Instr.lookup t (.map (some b)) (.int .i64 x) false).run P w=.ok (fE ((M x).getD Tl)) w:=by
 obtain⟨D,h,_,h2⟩:=h
 obtain⟨v,ps,hrun,hv⟩:=h.lookup (Go.Maps.int_keyed hk) ht hz (Tv Tl) (Go.Maps.keyOf_int_mk hk hx)
 rw[(h2 x hx).1] at hv
 rw[hrun,Wm hv]
theorem Pg.look_ok{t:TypeId}(h:Pg P k w b n M)(hk:P.underlying k=some (.int .i64))(ht:P.underlying t=some (.map k e))(hz:(zeroValue e).run P w=.ok (fE Tl) w)
  {x:Int} (hx:(Lit.int .i64 x).wf=true):(Instr.lookup t (.map (some b)) (.int .i64 x) true).run P w=.ok (.tuple #[fE ((M x).getD Tl),.bool (M x).isSome]) w:=by
 obtain⟨D,h,_,h2⟩:=h
 obtain⟨v,ps,hrun,hv⟩:=World.ownsMap.look_ok h (Go.Maps.int_keyed hk) ht hz (Tv Tl) (Go.Maps.keyOf_int_mk hk hx)
 rw[(h2 x hx).1] at hv
 rw[hrun,Wm hv,(h2 x hx).2]
theorem Yl{ops:Array Oper}{rest:List Oper}{o:Oper}{a:Act}{Q:Exit->Act->World->Prop}(hg:o.guard=none)(m x v:Operand)(t:TypeId)(hop:o.op=.mapUpdate t m x v)
  (k e:TypeId) (hk:P.underlying k=some (.int .i64)) (ht:P.underlying t=some (.map k e)) (b n:Nat) (M:Int->Option Ar) (X:Int) (d:Ar) (hm:a.eval m=.map (some b)) (hx:a.eval x=.int .i64 X) (hv:a.eval v=.agg #[.int .i64 d.Client,.int .i64 d.Seq,.int .i64 d.Index])
  (h:Pg P k w b n M) (hn:n<maxLen) (hw:(Lit.int .i64 X).wf=true)
  (hK:∀w',Pg P k w' b (n+1) (fun y=>if y=X then some d else M y)->w.grownBy w' (some b)->wpList P ops Q rest (a.put o.dst undef) w'):wpList P ops Q (o::rest) a w:=by
 refine wpList_plain hg fun K' hK'=>?_
 obtain⟨D,h,h1,h2⟩:=h
 obtain⟨w',hrun,hown,hgr⟩:=h.update (Go.Maps.int_keyed hk) ht hn (Go.Maps.keyOf_int_mk hk hw) (Tv d)
 have hs:Pg P k w' b (n+1) (fun y=>if y=X then some d else M y):=by
  refine⟨_,hown,h1.put _ _,fun y hy=>?_⟩
  by_cases hxy:y=X
  .
   subst hxy
   rw[Go.Maps.atKey_put_same h1 ((Go.Maps.int_keyed hk).key (Go.Maps.keyOf_int_mk hk hy)),Go.Maps.has_put_same h1 ((Go.Maps.int_keyed hk).key (Go.Maps.keyOf_int_mk hk hy))]
   simp
  have hne:(Lit.int .i64 y)≠Lit.int .i64 X:=fun hh=>by injection hh with _ hh;exact hxy hh
  rw[Go.Maps.atKey_put_other hne,Go.Maps.has_put_other hne]
  simpa[hxy] using h2 y hy
 unfold fE at hrun
 unfold Oper.wp
 simp[execOp,hop,hm,hx,hv,hrun,Result.andThen]
 exact hK' _ _ (hK w' hs hgr)
theorem iR{ops:Array Oper}{rest:List Oper}{o:Oper}{a:Act}{Q:Exit->Act->World->Prop}(hg:o.guard=none)(m x:Operand)(t k:TypeId)(hop:o.op=Op.call { callee:=Callee.builtin Builtin.delete,args:=#[m,x],argTypes:=#[t,k] })
  (e:TypeId) (hk:P.underlying k=some (.int .i64)) (ht:P.underlying t=some (.map k e)) (b n:Nat) (M:Int->Option Ar) (X:Int) (hm:a.eval m=.map (some b)) (hx:a.eval x=.int .i64 X)
  (h:Pg P k w b n M) (hw:(Lit.int .i64 X).wf=true)
  (hK:∀w',Pg P k w' b n (fun y=>if y=X then none else M y)->w.grownBy w' (some b)->wpList P ops Q rest (a.put o.dst (.tuple #[])) w'):wpList P ops Q (o::rest) a w:=by
 obtain⟨D,h,h1,h2⟩:=h
 refine wpList_delete_own w hg m x t k hop e (Go.Maps.int_keyed hk) ht Tt b n D hm h _ (.int .i64 X) hx (Go.Maps.keyOf_int_mk hk hw) (fun w' hown hturn=>hK w' ?_ hturn.grown)
 refine⟨_,hown,h1.del _,fun y hy=>?_⟩
 by_cases hxy:y=X
 .
  subst hxy
  rw[Go.Maps.atKey_del_same,Go.Maps.has_del_same]
  simp
 have hne:(Lit.int .i64 y)≠Lit.int .i64 X:=fun hh=>by injection hh with _ hh;exact hxy hh
 rw[Go.Maps.atKey_del_other hne,Go.Maps.has_del_other hne]
 simpa[hxy] using h2 y hy
end
theorem Ex.take{l:List Ar}(h:Ex l)(k:Nat):Ex (l.take k):=⟨fun m hm=>h.1 m (List.mem_of_mem_take hm),h.2.sublist (List.take_sublist k l)⟩
theorem cE{l:List Ar}{d:Ar}(h:Ex (l++[d]))(x:Int):Dg (l++[d]) x=if x=d.Client then some d else Dg l x:=by
 rw[Dg,List.find?_append]
 by_cases hx:x=d.Client
 .
  rw[if_pos hx,show List.find? (fun m=>decide (m.Client=x)) l=none from Ux (fun m hm=>by
   have:=((List.pairwise_append.1 h.2).2.2 m hm d (by simp)).1
   omega)]
  simp[hx]
 rw[if_neg hx,List.find?_cons_of_neg (by simpa using fun e=>hx e.symm)]
 simp only[List.find?_nil,Option.or_none,Dg]
end
theorem uI(w:World):(zeroValue 290).run Tryz.prog w=.ok (fE Tl) w:=by kernel_rfl
theorem aI(w:World)(v u:Value)(s:List Ar)(l:List Aq)(h:Aj 3 w v (Cz s))(h2:Aj 9 w u (Ds l))(hs:Ii s=true)(hl:l.length<=2000):Calls Tryz.prog 282 #[v,u] w (Ret w fun r w'=>∃x,r=.tuple #[x,.bool (Dn s l).isSome]/\Aj 3 w' x (Cz ((Dn s l).getD s))):=by
 have hlen:=(Jv.1 hs).len
 obtain⟨av,capv,rfl,hcapv,hmv,hav⟩:=h.recs (f:=Ar.ints) (fun _=>rfl) dC
 obtain⟨a,cap,rfl,hcap,hm,ha⟩:=h2.recs (f:=Aq.ints) (fun _=>rfl) dC
 have HA:=Lib.hid ha;have HV:=Lib.hid hav;have HS:=Lib.hid hs;have HLEN:=Lib.hid hlen
 clear ha hav hs
 unfold maxLen at hm hmv
 obtain⟨i0,hi,hz0,hz1,hz2⟩:=info_parts fC
 have hmm:=@run_makeMap Tryz.prog
 go_enter Tryz.func282,Tryz.ntmps282
 go_wp2_with fail
 refine(aD _ _ s h).mono ?_
 rintro e1 w1⟨rfl,hx1⟩
 rw[HS.out]
 have sz1:=hx1.size
 go_wp2_with fail
 clear hmm
 go_loopw [27] (fun ii wr=>∃k:Nat,k<=s.length/\ii=.int .i64 k/\Ext w1 wr/\Pg Tryz.prog 2 wr w1.heap.size k (Dg (s.take k))) (fun ii _=>s.length - (intOf ii).toNat)
 case atStart=>exact⟨0,Nat.zero_le _,rfl,(Ext.refl _).alloc _,(Pg.made Tryz.prog 2 w1).cast (fun x=>by simp[Dg])⟩
 case round =>
  obtain⟨k,hk,rfl,he,hset⟩:=hrel
  have hsz:=he.size
  have hset0:=hset.lt
  by_cases hlt:k<s.length
  .
   obtain⟨d,b1,o1,hd,rfl,hb1,c⟩:=HV.out k hlt
   have d0:=(hx1.trans he).cell (c 0 _ dC rfl)
   have d1:=(hx1.trans he).cell (c 1 _ dC rfl)
   have d2:=(hx1.trans he).cell (c 2 _ dC rfl)
   simp only[Nat.add_zero] at d0
   have HD:=Lib.hid hd
   clear c hd
   have hw:(Lit.int .i64 d.Client).wf=true:=WalkArith.wf_i64 (by have:=Nz ((Jv.1 HS.out).1 d (List.mem_of_getElem? HD.out));omega)
   go_wp2_with (first|(at_mapUpdate;refine Yl rfl _ _ _ 390 rfl 2 290 Tryz.underlying2 Tryz.underlying390 _ _ _ _ d rfl rfl rfl (hset.ext ((Ext.refl _).alloc _)) (by unfold maxLen;omega) hw ?_;intro w2 hset2 hgr2))
   have hx2:=(he.alloc _).grownOwn hgr2 oM
   go_roundw
   case rel=>exact⟨k+1,by omega,by go_num,hx2,hset2.cast (fun x=>by
    have hts:s.take (k+1)=s.take k++[d]:=by rw[List.take_add_one,HD.out];rfl
    rw[hts,cE (by rw[<-hts];exact(Jv.1 HS.out).take _)])⟩
   case measure=>simp[intOf];omega
  obtain rfl:k=s.length:=by omega
  rw[List.take_length] at hset
  go_wp2_with fail
  refine(aE _ _ s (h.ext (hx1.trans he))).mono ?_
  rintro e2 w2⟨rfl,hx2⟩
  have hset2:=hset.ext hx2
  have hE2:=he.trans hx2
  clear hset he hset0 hx2
  go_wp2_with fail
  go_loopw [9,40] (fun lv ii wr=>∃(k:Nat) (t:List Ar) (n:Nat),k<=l.length/\ii=.int .i64 k/\(∃z:Int,z=Ej t/\lv=.int .i64 z)/\n<=4+k/\Ext w1 wr/\Pg Tryz.prog 2 wr w1.heap.size n (Dg t)/\Hid (Dn s (l.take k)=some t)) (fun _ ii _=>l.length - (intOf ii).toNat)
  case atStart=>exact⟨0,s,s.length,Nat.zero_le _,rfl,⟨_,rfl,rfl⟩,by omega,hE2,hset2,Lib.hid rfl⟩
  case round =>
   clear hset2 hE2
   obtain⟨k,t,n,hk,rfl,⟨z,hz,rfl⟩,hn4,he,hset,HT⟩:=hrel
   have HZ:=Lib.hid hz
   clear hz
   have hsz:=he.size
   have hset0:=hset.lt
   by_cases hlt:k<l.length
   .
    obtain⟨d,b1,o1,hd,rfl,hb1,c⟩:=HA.out k hlt
    have d0:=(hx1.trans he).cell (c 0 _ dC rfl)
    have d1:=(hx1.trans he).cell (c 1 _ dC rfl)
    have d2:=(hx1.trans he).cell (c 2 _ dC rfl)
    have d3:=(hx1.trans he).cell (c 3 _ dC rfl)
    have d4:=(hx1.trans he).cell (c 4 _ dC rfl)
    have d5:=(hx1.trans he).cell (c 5 _ dC rfl)
    have d6:=(hx1.trans he).cell (c 6 _ dC rfl)
    have d7:=(hx1.trans he).cell (c 7 _ dC rfl)
    have d8:=(hx1.trans he).cell (c 8 _ dC rfl)
    simp only[Nat.add_zero] at d0
    have HD:=Lib.hid hd
    clear c hd
    go_upto_region 15 with(fail)
    obtain⟨W,hW⟩:∃W,W=wr.alloc (.cells #[.int .i64 d.Index,.int .i64 d.Time,.int .i64 d.Client,.int .i64 d.Seq,.int .i64 d.Op.Kind,.int .i64 d.Op.A,.int .i64 d.Op.B,.int .i64 d.Op.C,.int .i64 d.Op.D] 281):=⟨_,rfl⟩
    have heR:Ext wr W:=by rw[hW];exact(Ext.refl wr).alloc _
    have KX:Blk W wr.heap.size 281 #[.int .i64 d.Index,.int .i64 d.Time,.int .i64 d.Client,.int .i64 d.Seq,.int .i64 d.Op.Kind,.int .i64 d.Op.A,.int .i64 d.Op.B,.int .i64 d.Op.C,.int .i64 d.Op.D]:=by rw[hW];exact Blk.new _ _ _
    rw[<-hW]
    clear hW d0 d1 d2 d3 d4 d5 d6 d7 d8
    obtain⟨CX,FX,LX⟩:=KX.cfl
    cases hp:Dt d
    .
     have hst:Es t d=none:=by simp[Es,hp]
     have HN:=Lib.hid (Oh HD.out HT.out hst)
     clear hst
     go_wp2_with (first|(go_at_call 361;refine(Ns _ d.Index d.Time d.Client d.Seq d.Op.Kind d.Op.A d.Op.B d.Op.C d.Op.D).mono ?_;rintro e9 w3 ⟨rfl,hx3⟩;rw[show Dt (⟨d.Index,d.Time,d.Client,d.Seq,⟨d.Op.Kind,d.Op.A,d.Op.B,d.Op.C,d.Op.D⟩⟩:Aq)=false from hp]))
     refine(Vt _ _ s (h.ext Aa) oM).mono ?_
     rintro e4 w4⟨t4,rfl,hx4,g4⟩
     obtain⟨a5,n5,c5,rfl⟩:=g4.ints.shape
     go_wp2_with fail
     go_ret2
     exact⟨_,rfl,by exact Aa,_,by rw[HN.out];rfl,by rw[HN.out];exact g4.ints⟩
    obtain⟨p1,p2,p5,p6,q1,q2,q3,q4,p7⟩:=Ki hp
    have hw:(Lit.int .i64 d.Client).wf=true:=WalkArith.wf_i64 oM
    have hlk:∀wq,Ext wr wq->(Instr.lookup 390 (.map (some w1.heap.size)) (.int .i64 d.Client) false).run Tryz.prog wq=.ok (.agg #[.int .i64 (Fp t d.Client).Client,.int .i64 (Fp t d.Client).Seq,.int .i64 (Fp t d.Client).Index]) wq:=fun wq hq=>(hset.ext hq).look Tryz.underlying2 Tryz.underlying390 (uI _) hw
    by_cases hq:(Fp t d.Client).Seq<d.Seq
    rotate_left
    .
     have hst:Es t d=none:=by simp[Es,hq]
     have HN:=Lib.hid (Oh HD.out HT.out hst)
     have hq1:decide (d.Seq<=(Fp t d.Client).Seq)=true:=by simp;omega
     clear hst hq
     go_wp2_with (first|(go_at_call 361;refine(Ns _ d.Index d.Time d.Client d.Seq d.Op.Kind d.Op.A d.Op.B d.Op.C d.Op.D).mono ?_;rintro e9 w3 ⟨rfl,hx3⟩;rw[show Dt (⟨d.Index,d.Time,d.Client,d.Seq,⟨d.Op.Kind,d.Op.A,d.Op.B,d.Op.C,d.Op.D⟩⟩:Aq)=true from hp];have KX3:=KX.ext hx3;have CX3:=KX3.cell;have FX3:=KX3.frozen;have LX3:=KX3.lt;have hl3:=hlk w3 (heR.trans hx3);have hfd:∀W:World,(Instr.field 290 (.agg #[.int .i64 (Fp t d.Client).Client,.int .i64 (Fp t d.Client).Seq,.int .i64 (Fp t d.Client).Index]) 1).run Tryz.prog W=.ok (.int .i64 (Fp t d.Client).Seq) W:=fun _=>by kernel_rfl))
     refine(Vt _ _ s (h.ext Aa) oM).mono ?_
     rintro e4 w4⟨t4,rfl,hx4,g4⟩
     obtain⟨a5,n5,c5,rfl⟩:=g4.ints.shape
     go_wp2_with fail
     go_ret2
     exact⟨_,rfl,by exact Aa,_,by rw[HN.out];rfl,by rw[HN.out];exact g4.ints⟩
    have hq1:decide (d.Seq<=(Fp t d.Client).Seq)=false:=by simp;omega
    by_cases hlx:d.Index<=z
    .
     have hst:Es t d=none:=by rw[HZ.out] at hlx;simp[Es];omega
     have HN:=Lib.hid (Oh HD.out HT.out hst)
     have hl1:decide (d.Index<=z)=true:=by simpa using hlx
     clear hst hq hlx
     go_wp2_with (first|(go_at_call 361;refine(Ns _ d.Index d.Time d.Client d.Seq d.Op.Kind d.Op.A d.Op.B d.Op.C d.Op.D).mono ?_;rintro e9 w3 ⟨rfl,hx3⟩;rw[show Dt (⟨d.Index,d.Time,d.Client,d.Seq,⟨d.Op.Kind,d.Op.A,d.Op.B,d.Op.C,d.Op.D⟩⟩:Aq)=true from hp];have KX3:=KX.ext hx3;have CX3:=KX3.cell;have FX3:=KX3.frozen;have LX3:=KX3.lt;have hl3:=hlk w3 (heR.trans hx3);have hfd:∀W:World,(Instr.field 290 (.agg #[.int .i64 (Fp t d.Client).Client,.int .i64 (Fp t d.Client).Seq,.int .i64 (Fp t d.Client).Index]) 1).run Tryz.prog W=.ok (.int .i64 (Fp t d.Client).Seq) W:=fun _=>by kernel_rfl))
     refine(Vt _ _ s (h.ext Aa) oM).mono ?_
     rintro e4 w4⟨t4,rfl,hx4,g4⟩
     obtain⟨a5,n5,c5,rfl⟩:=g4.ints.shape
     go_wp2_with fail
     go_ret2
     exact⟨_,rfl,by exact Aa,_,by rw[HN.out];rfl,by rw[HN.out];exact g4.ints⟩
    have hl1:decide (d.Index<=z)=false:=by simpa using hlx
    have hst:Es t d=some (Ed t (Kg d)):=by rw[HZ.out] at hlx;simp[Es,hp];omega
    have HST:=Lib.hid hst
    have HOK:=Lib.hid (Qz (Jv.1 HS.out) HT.out)
    have HIX:=Lib.hid (Qy HOK.out hst).2
    clear hst hq hlx
    go_upto_region 17 with(first|(go_at_call 361;refine(Ns _ d.Index d.Time d.Client d.Seq d.Op.Kind d.Op.A d.Op.B d.Op.C d.Op.D).mono ?_;rintro e9 w3 ⟨rfl,hx3⟩;rw[show Dt (⟨d.Index,d.Time,d.Client,d.Seq,⟨d.Op.Kind,d.Op.A,d.Op.B,d.Op.C,d.Op.D⟩⟩:Aq)=true from hp];have KX3:=KX.ext hx3;have CX3:=KX3.cell;have FX3:=KX3.frozen;have LX3:=KX3.lt;have hl3:=hlk w3 (heR.trans hx3);have hfd:∀W:World,(Instr.field 290 (.agg #[.int .i64 (Fp t d.Client).Client,.int .i64 (Fp t d.Client).Seq,.int .i64 (Fp t d.Client).Index]) 1).run Tryz.prog W=.ok (.int .i64 (Fp t d.Client).Seq) W:=fun _=>by kernel_rfl))
    have hset3:=(hset.ext (heR.trans hx3))
    have hE3:Ext w1 w3:=he.trans (heR.trans hx3)
    have hz3:=hE3.size
    clear hset
    go_wp2_with (first|(at_delete;refine iR rfl _ _ 390 2 rfl 290 Tryz.underlying2 Tryz.underlying390 _ _ _ d.Client rfl rfl hset3 hw ?_;intro w5 hset5 hgr5;have hl5:=hgr5.size;have KX5:=KX3.grown hgr5 (fun h=>by injection h;omega);have CX5:=KX5.cell;have FX5:=KX5.frozen;have LX5:=KX5.lt)|(at_mapUpdate;refine Yl rfl _ _ _ 390 rfl 2 290 Tryz.underlying2 Tryz.underlying390 _ _ _ _ (Kg d) rfl rfl rfl hset5 (by unfold maxLen;omega) hw ?_;intro w6 hset6 hgr6;have KX6:=KX5.grown hgr6 (fun h=>by injection h;omega);have CX6:=KX6.cell;have FX6:=KX6.frozen;have LX6:=KX6.lt))
    have hx5:=hE3.grownOwn hgr5 oM
    have hx6:=hx5.grownOwn hgr6 oM
    go_roundw
    case rel=>exact⟨k+1,Ed t (Kg d),n+1,by omega,by go_num,⟨_,HIX.out.symm,rfl⟩,by omega,hx6,hset6.cast (fun x=>by
     by_cases hx:x=d.Client
     .
      rw[if_pos hx,hx];exact(bV HOK.out (Kg d)).symm
     rw[if_neg hx,if_neg hx,aB HOK.out (x:=Kg d) hx]),Lib.hid (by rw[Rj HD.out HT.out,HST.out])⟩
    case measure=>simp[intOf];omega
   obtain rfl:k=l.length:=by omega
   rw[List.take_length] at HT
   have HOK:=Lib.hid (Qz (Jv.1 HS.out) HT.out)
   have hlt4:=HOK.out.len
   go_upto_region 22 with(fail)
   obtain⟨W5,hW5⟩:∃W5,W5=wr:=⟨_,rfl⟩
   rw[<-hW5] at hset he ⊢
   have hz5:=he.size
   go_wp2_with fail
   go_loopw [12,13] (fun out ii wr=>∃j:Nat,j<=4/\ii=.int .i64 (2+(j:Int))/\Ext W5 wr/\Af W5.heap.size 290 3 wr out (Cz ((List.range j).filterMap (fun i=>Dg t (2+(i:Nat)))))) (fun _ ii _=>6 - (intOf ii).toNat)
   case atStart=>exact⟨0,by omega,rfl,(Ext.refl _).alloc _,Af.lit0m W5 _ _⟩
   case round =>
    clear hW5
    obtain⟨j,hj,rfl,hey,hown⟩:=hrel
    have hzr:=hey.size
    obtain⟨a1,n1,c1,rfl,-,-,-⟩:=hown.open_
    have hjl:((List.range j).filterMap (fun i=>Dg t (2+(i:Nat)))).length<=j:=by have:=List.length_filterMap_le (fun i=>Dg t (2+((i:Nat):Int))) (List.range j);simpa using this
    have hrs:∀o:Option Ar,Dg t (2+(j:Int))=o->(List.range (j+1)).filterMap (fun i=>Dg t (2+(i:Nat)))=(List.range j).filterMap (fun i=>Dg t (2+(i:Nat)))++o.toList:=fun o ho=>by rw[List.range_succ,List.filterMap_append,List.filterMap_cons,ho];cases o <;> rfl
    have HRS:=Lib.hid hrs
    clear hrs
    by_cases hj4:j<4
    .
     have hw:(Lit.int .i64 (2+(j:Int))).wf=true:=WalkArith.wf_i64 oM
     have hlk:=((hset.ext hey)).look_ok (t:=390) Tryz.underlying2 Tryz.underlying390 (uI _) hw
     unfold fE at hlk
     have hc:decide ((2+(j:Int))<=5)=true:=by simp;omega
     have hwr:IntKind.i64.wrap (2+(j:Int)+1)=2+((j+1:Nat):Int):=by rw[IntKind.wrap_i64] <;> (push_cast;omega)
     cases hf:Dg t (2+(j:Int)) with
     | none =>
      rw[hf] at hlk
      simp only[Option.getD_none,Option.isSome_none] at hlk
      have HF:=Lib.hid hf
      clear hf
      go_wp2_with fail
      go_roundw
      case rel=>exact⟨j+1,by omega,by first|rfl|(push_cast;rfl)|(congr 1;push_cast;omega),by exact Aa,by rw[HRS.out _ HF.out];simpa using Af.ext hown ((Ext.refl _).alloc _)⟩
      case measure=>simp[intOf];omega
     | some m =>
      rw[hf] at hlk
      simp only[Option.getD_some,Option.isSome_some] at hlk
      have HF:=Lib.hid hf
      clear hf
      go_wp2_with (first|(at_builtin;refine Fg rfl _ _ 73 rfl 290 i0 _ 3 24 Tryz.underlying73 hi hz0 hz1 hz2 rfl dC (W5.heap.size) _ _ rfl (Own.ext hown Aa) _ (([m.Client,m.Seq,m.Index]:List Int).map (.int .i64)) rfl (Sl.oneAtM _ #[.int .i64 m.Client,.int .i64 m.Seq,.int .i64 m.Index] _ 3 _ (by first|rfl|simp) rfl) (ints_oneCell _ _) 1000 (by simp only[List.length_map,List.length_cons,List.length_nil,Hv];omega) (by unfold maxLen;omega) oM (by simp;omega) W5 Aa oM ?_;rotate_right;intro v1 wa hown1 hea _))
      go_roundw
      case rel=>exact⟨j+1,by omega,by first|rfl|(push_cast;rfl)|(congr 1;push_cast;omega),hea,Oj (Vs hown1) (by rw[HRS.out _ HF.out];simp only[Option.toList_some];rw[Mt])⟩
      case measure=>simp[intOf];omega
    obtain rfl:j=4:=by omega
    rw[kT HOK.out] at hown
    go_wp2_with fail
    go_ret2
    exact⟨_,rfl,by exact Aa,_,by rw[HT.out];rfl,by rw[HT.out];exact hown.ints⟩
theorem nU(w:World)(v u:Value)(l m:List Ar)(h:Aj 3 w v (Cz l))(k:Aj 3 w u (Cz m)):Calls Tryz.prog 362 #[v,u] w (Cp w (.bool (eqB l m))):=by
 obtain⟨a,c,rfl,hc,hm,ha⟩:=h.recs (f:=Ar.ints) (fun _=>rfl) dC
 obtain⟨b,d,rfl,hd,hn,hb⟩:=k.recs (f:=Ar.ints) (fun _=>rfl) dC
 have HA:=Lib.hid ha;have HB:=Lib.hid hb
 clear ha hb h k
 unfold maxLen at hm hn
 by_cases hl:l.length=m.length
 rotate_left
 .
  have hD:eqB l m=false:=Au (fun e=>hl (by rw[e]))
  have hb1:((l.length:Int) == (m.length:Int))=false:=by simp;omega
  have hb2:decide ((l.length:Int)=(m.length:Int))=false:=by simp;omega
  have hb3:decide (l.length=m.length)=false:=by simpa using hl
  have HD:=Lib.hid hD
  clear hl hD
  go_enter Tryz.func362,Tryz.ntmps362
  go_wp2
  go_ret
  exact⟨by rw[HD.out];try rfl,by exact Aa⟩
 obtain⟨N,hN⟩:∃N,N=m.length:=⟨_,rfl⟩
 rw[<-hN] at hl HB hd ⊢
 rw[hl] at HA hc ⊢
 have HL:=Lib.hid hl;have HN:=Lib.hid hN
 clear hl hN
 go_enter Tryz.func362,Tryz.ntmps362
 go_wp2_with fail
 go_loopw [13] (fun i wr=>∃k:Nat,k<=N/\i=.int .i64 k/\Ext w wr/\Hid (l.take k=m.take k)) (fun i _=>N - (intOf i).toNat)
 case atStart=>exact⟨0,Nat.zero_le _,rfl,Ext.refl _,Lib.hid (by simp)⟩
 case round =>
  obtain⟨k,hk,rfl,he,ht⟩:=hrel
  by_cases hlt:k<N
  .
   obtain⟨x,b1,o1,hx,rfl,hb1,c1⟩:=HA.out k hlt
   obtain⟨y,b2,o2,hy,rfl,hb2,c2⟩:=HB.out k hlt
   obtain⟨x0,x1,x2⟩:=x
   obtain⟨y0,y1,y2⟩:=y
   have d0:=he.cell (c1 0 _ dC rfl);have e0:=he.cell (c2 0 _ dC rfl)
   have d1:=he.cell (c1 1 _ dC rfl);have e1:=he.cell (c2 1 _ dC rfl)
   have d2:=he.cell (c1 2 _ dC rfl);have e2:=he.cell (c2 2 _ dC rfl)
   simp only[Nat.add_zero] at d0 e0
   have HX:=Lib.hid hx;have HY:=Lib.hid hy
   clear hx hy c1 c2
   by_cases hne:x0=y0
   rotate_left
   .
    have b1:(x0 == y0)=false:=by simpa using hne
    have b2:decide (x0=y0)=false:=by simpa using hne
    have hD:eqB l m=false:=Au (fun e=>by
     have h1:=HX.out;have h2:=HY.out
     rw[e,h2] at h1
     injection h1 with h1
     simp at h1
     omega)
    have HD:=Lib.hid hD
    clear hD hne
    go_wp2_with fail
    go_quiet (fail)
    go_wp2_with fail
    go_ret
    exact⟨by rw[HD.out];try rfl,by exact Aa⟩
   subst hne
   by_cases hne:x1=y1
   rotate_left
   .
    have b1:(x1 == y1)=false:=by simpa using hne
    have b2:decide (x1=y1)=false:=by simpa using hne
    have hD:eqB l m=false:=Au (fun e=>by
     have h1:=HX.out;have h2:=HY.out
     rw[e,h2] at h1
     injection h1 with h1
     simp at h1
     omega)
    have HD:=Lib.hid hD
    clear hD hne
    go_wp2_with fail
    go_quiet (fail)
    go_wp2_with fail
    go_ret
    exact⟨by rw[HD.out];try rfl,by exact Aa⟩
   subst hne
   by_cases hne:x2=y2
   rotate_left
   .
    have b1:(x2 == y2)=false:=by simpa using hne
    have b2:decide (x2=y2)=false:=by simpa using hne
    have hD:eqB l m=false:=Au (fun e=>by
     have h1:=HX.out;have h2:=HY.out
     rw[e,h2] at h1
     injection h1 with h1
     simp at h1
     omega)
    have HD:=Lib.hid hD
    clear hD hne
    go_wp2_with fail
    go_quiet (fail)
    go_wp2_with fail
    go_ret
    exact⟨by rw[HD.out];try rfl,by exact Aa⟩
   subst hne
   go_wp2_with fail
   go_quiet (fail)
   go_wp2_with fail
   go_roundw
   case rel=>exact⟨k+1,by omega,by go_num,by exact Aa,Lib.hid (Jc HX.out HY.out ht.out)⟩
   case measure=>simp[intOf];omega
  obtain rfl:k=N:=by omega
  have hD:eqB l m=true:=by
   have h1:=ht.out
   rw[List.take_of_length_le (by rw[HL.out];omega),List.take_of_length_le (by rw[<-HN.out];omega)] at h1
   exact Fc h1
  have HD:=Lib.hid hD
  clear hD
  go_wp2_with fail
  go_ret
  exact⟨by rw[HD.out];try rfl,by exact Aa⟩
theorem Rb(w:World)(v u:Value)(l m:List Ar)(h:Aj 3 w v (Cz l))(k:Aj 3 w u (Cz m)):Calls Tryz.prog 308 #[v,u] w (Cp w (.bool (eqB l m))):=by
 obtain⟨a,c,rfl,hc,hm,ha⟩:=h.recs (f:=Ar.ints) (fun _=>rfl) dC
 obtain⟨b,d,rfl,hd,hn,hb⟩:=k.recs (f:=Ar.ints) (fun _=>rfl) dC
 have HA:=Lib.hid ha;have HB:=Lib.hid hb
 clear ha hb h k
 unfold maxLen at hm hn
 by_cases hl:l.length=m.length
 rotate_left
 .
  have hD:eqB l m=false:=Au (fun e=>hl (by rw[e]))
  have hb1:((l.length:Int) == (m.length:Int))=false:=by simp;omega
  have hb2:decide ((l.length:Int)=(m.length:Int))=false:=by simp;omega
  have hb3:decide (l.length=m.length)=false:=by simpa using hl
  have HD:=Lib.hid hD
  clear hl hD
  go_enter Tryz.func308,Tryz.ntmps308
  go_wp2
  go_ret
  exact⟨by rw[HD.out];try rfl,by exact Aa⟩
 obtain⟨N,hN⟩:∃N,N=m.length:=⟨_,rfl⟩
 rw[<-hN] at hl HB hd ⊢
 rw[hl] at HA hc ⊢
 have HL:=Lib.hid hl;have HN:=Lib.hid hN
 clear hl hN
 go_enter Tryz.func308,Tryz.ntmps308
 go_wp2_with fail
 go_loopw [5] (fun i wr=>∃k:Nat,k<=N/\i=.int .i64 k/\Ext w wr/\Hid (l.take k=m.take k)) (fun i _=>N - (intOf i).toNat)
 case atStart=>exact⟨0,Nat.zero_le _,rfl,Ext.refl _,Lib.hid (by simp)⟩
 case round =>
  obtain⟨k,hk,rfl,he,ht⟩:=hrel
  by_cases hlt:k<N
  .
   obtain⟨x,b1,o1,hx,rfl,hb1,c1⟩:=HA.out k hlt
   obtain⟨y,b2,o2,hy,rfl,hb2,c2⟩:=HB.out k hlt
   obtain⟨x0,x1,x2⟩:=x
   obtain⟨y0,y1,y2⟩:=y
   have d0:=he.cell (c1 0 _ dC rfl);have e0:=he.cell (c2 0 _ dC rfl)
   have d1:=he.cell (c1 1 _ dC rfl);have e1:=he.cell (c2 1 _ dC rfl)
   have d2:=he.cell (c1 2 _ dC rfl);have e2:=he.cell (c2 2 _ dC rfl)
   simp only[Nat.add_zero] at d0 e0
   have HX:=Lib.hid hx;have HY:=Lib.hid hy
   clear hx hy c1 c2
   by_cases hne:x0=y0
   rotate_left
   .
    have b1:(x0 == y0)=false:=by simpa using hne
    have b2:decide (x0=y0)=false:=by simpa using hne
    have hD:eqB l m=false:=Au (fun e=>by
     have h1:=HX.out;have h2:=HY.out
     rw[e,h2] at h1
     injection h1 with h1
     simp at h1
     omega)
    have HD:=Lib.hid hD
    clear hD hne
    go_wp2_with fail
    go_quiet (fail)
    go_wp2_with fail
    go_ret
    exact⟨by rw[HD.out];try rfl,by exact Aa⟩
   subst hne
   by_cases hne:x1=y1
   rotate_left
   .
    have b1:(x1 == y1)=false:=by simpa using hne
    have b2:decide (x1=y1)=false:=by simpa using hne
    have hD:eqB l m=false:=Au (fun e=>by
     have h1:=HX.out;have h2:=HY.out
     rw[e,h2] at h1
     injection h1 with h1
     simp at h1
     omega)
    have HD:=Lib.hid hD
    clear hD hne
    go_wp2_with fail
    go_quiet (fail)
    go_wp2_with fail
    go_ret
    exact⟨by rw[HD.out];try rfl,by exact Aa⟩
   subst hne
   by_cases hne:x2=y2
   rotate_left
   .
    have b1:(x2 == y2)=false:=by simpa using hne
    have b2:decide (x2=y2)=false:=by simpa using hne
    have hD:eqB l m=false:=Au (fun e=>by
     have h1:=HX.out;have h2:=HY.out
     rw[e,h2] at h1
     injection h1 with h1
     simp at h1
     omega)
    have HD:=Lib.hid hD
    clear hD hne
    go_wp2_with fail
    go_quiet (fail)
    go_wp2_with fail
    go_ret
    exact⟨by rw[HD.out];try rfl,by exact Aa⟩
   subst hne
   go_wp2_with fail
   go_quiet (fail)
   go_wp2_with fail
   go_roundw
   case rel=>exact⟨k+1,by omega,by go_num,by exact Aa,Lib.hid (Jc HX.out HY.out ht.out)⟩
   case measure=>simp[intOf];omega
  obtain rfl:k=N:=by omega
  have hD:eqB l m=true:=by
   have h1:=ht.out
   rw[List.take_of_length_le (by rw[HL.out];omega),List.take_of_length_le (by rw[<-HN.out];omega)] at h1
   exact Fc h1
  have HD:=Lib.hid hD
  clear hD
  go_wp2_with fail
  go_ret
  exact⟨by rw[HD.out];try rfl,by exact Aa⟩
theorem Qj(w:World)(v u:Value)(l m:List Ar)(h:Aj 3 w v (Cz l))(k:Aj 3 w u (Cz m)):Calls Tryz.prog 283 #[v,u] w (Cp w (.bool (eqB l m))):=by
 go_enter Tryz.func283,Tryz.ntmps283
 go_wp2_with fail
 refine(nU _ v u l m h k).mono ?_
 rintro e w1⟨rfl,hx1⟩
 go_wp2_with fail
 go_ret
 exact⟨rfl,hx1⟩
theorem Vu(w:World)(Ae:Int)(Ax:Int)(Cw:Int)(Iq:Value)(Bm:List Ar)(Ew:Int)(Mw:Int)(Qr:Int)(sJ:Value)(Ta:List Ar)(Gm:Aj 3 w Iq (Cz Bm))(sK:Aj 3 w sJ (Cz Ta)):Calls Tryz.prog 289 #[.agg #[.int .i64 Ae,.int .i64 Ax,.int .i64 Cw,Iq],.agg #[.int .i64 Ew,.int .i64 Mw,.int .i64 Qr,sJ]] w (Cp w (.bool (eqB (⟨Ae,Ax,Cw,Bm⟩:Di) (⟨Ew,Mw,Qr,Ta⟩:Di)))):=by
 obtain⟨a3,n3,k3,rfl⟩:=Gm.shape
 obtain⟨a4,n4,k4,rfl⟩:=sK.shape
 go_enter Tryz.func289,Tryz.ntmps289
 by_cases hne:Ae=Ew
 rotate_left
 .
  have b1:(Ae == Ew)=false:=by simpa using hne
  have b2:decide (Ae=Ew)=false:=by simpa using hne
  have HD:=Lib.hid (show eqB (⟨Ae,Ax,Cw,Bm⟩:Di) (⟨Ew,Mw,Qr,Ta⟩:Di)=false from Au (fun e=>by injection e;exact hne (by assumption)))
  clear hne
  go_wp2_with fail
  go_ret
  exact⟨by rw[HD.out];try rfl,by exact Aa⟩
 subst hne
 by_cases hne:Ax=Mw
 rotate_left
 .
  have b1:(Ax == Mw)=false:=by simpa using hne
  have b2:decide (Ax=Mw)=false:=by simpa using hne
  have HD:=Lib.hid (show eqB (⟨Ae,Ax,Cw,Bm⟩:Di) (⟨Ae,Mw,Qr,Ta⟩:Di)=false from Au (fun e=>by injection e;exact hne (by assumption)))
  clear hne
  go_wp2_with fail
  go_ret
  exact⟨by rw[HD.out];try rfl,by exact Aa⟩
 subst hne
 by_cases hne:Cw=Qr
 rotate_left
 .
  have b1:(Cw == Qr)=false:=by simpa using hne
  have b2:decide (Cw=Qr)=false:=by simpa using hne
  have HD:=Lib.hid (show eqB (⟨Ae,Ax,Cw,Bm⟩:Di) (⟨Ae,Ax,Qr,Ta⟩:Di)=false from Au (fun e=>by injection e;exact hne (by assumption)))
  clear hne
  go_wp2_with fail
  go_ret
  exact⟨by rw[HD.out];try rfl,by exact Aa⟩
 subst hne
 have hD:eqB (⟨Ae,Ax,Cw,Bm⟩:Di) ⟨Ae,Ax,Cw,Ta⟩=eqB Bm Ta:=by
  by_cases h:Bm=Ta
  .
   rw[h,Fc rfl,Fc rfl]
  rw[Au h,Au (fun e=>h (by injection e))]
 have HD:=Lib.hid hD
 clear hD
 go_wp2_with (first|(go_at_call 283;refine(Qj _ _ _ Bm Ta (Gm.ext Aa) (sK.ext Aa)).mono ?_;rintro e9 w9 ⟨rfl,hx9⟩))
 go_ret
 exact⟨by rw[HD.out];try rfl,by exact Aa⟩
theorem Uy(w:World)(Ae:Int)(Ax:Int)(Cw:Int)(Iq:Value)(Bm:List Ar)(Ew:Int)(Mw:Int)(Qr:Int)(sJ:Value)(Ta:List Ar)(Gm:Aj 3 w Iq (Cz Bm))(sK:Aj 3 w sJ (Cz Ta)):Calls Tryz.prog 311 #[.agg #[.int .i64 Ae,.int .i64 Ax,.int .i64 Cw,Iq],.agg #[.int .i64 Ew,.int .i64 Mw,.int .i64 Qr,sJ]] w (Cp w (.bool (eqB (⟨Ae,Ax,Cw,Bm⟩:Di) (⟨Ew,Mw,Qr,Ta⟩:Di)))):=by
 obtain⟨a3,n3,k3,rfl⟩:=Gm.shape
 obtain⟨a4,n4,k4,rfl⟩:=sK.shape
 go_enter Tryz.func311,Tryz.ntmps311
 by_cases hne:Ae=Ew
 rotate_left
 .
  have b1:(Ae == Ew)=false:=by simpa using hne
  have b2:decide (Ae=Ew)=false:=by simpa using hne
  have HD:=Lib.hid (show eqB (⟨Ae,Ax,Cw,Bm⟩:Di) (⟨Ew,Mw,Qr,Ta⟩:Di)=false from Au (fun e=>by injection e;exact hne (by assumption)))
  clear hne
  go_wp2_with fail
  go_ret
  exact⟨by rw[HD.out];try rfl,by exact Aa⟩
 subst hne
 by_cases hne:Ax=Mw
 rotate_left
 .
  have b1:(Ax == Mw)=false:=by simpa using hne
  have b2:decide (Ax=Mw)=false:=by simpa using hne
  have HD:=Lib.hid (show eqB (⟨Ae,Ax,Cw,Bm⟩:Di) (⟨Ae,Mw,Qr,Ta⟩:Di)=false from Au (fun e=>by injection e;exact hne (by assumption)))
  clear hne
  go_wp2_with fail
  go_ret
  exact⟨by rw[HD.out];try rfl,by exact Aa⟩
 subst hne
 by_cases hne:Cw=Qr
 rotate_left
 .
  have b1:(Cw == Qr)=false:=by simpa using hne
  have b2:decide (Cw=Qr)=false:=by simpa using hne
  have HD:=Lib.hid (show eqB (⟨Ae,Ax,Cw,Bm⟩:Di) (⟨Ae,Ax,Qr,Ta⟩:Di)=false from Au (fun e=>by injection e;exact hne (by assumption)))
  clear hne
  go_wp2_with fail
  go_ret
  exact⟨by rw[HD.out];try rfl,by exact Aa⟩
 subst hne
 have hD:eqB (⟨Ae,Ax,Cw,Bm⟩:Di) ⟨Ae,Ax,Cw,Ta⟩=eqB Bm Ta:=by
  by_cases h:Bm=Ta
  .
   rw[h,Fc rfl,Fc rfl]
  rw[Au h,Au (fun e=>h (by injection e))]
 have HD:=Lib.hid hD
 clear hD
 go_wp2_with (first|(go_at_call 308;refine(Rb _ _ _ Bm Ta (Gm.ext Aa) (sK.ext Aa)).mono ?_;rintro e9 w9 ⟨rfl,hx9⟩))
 go_ret
 exact⟨by rw[HD.out];try rfl,by exact Aa⟩
theorem fF(w:World)(d:Aq):Calls Tryz.prog 366 #[.agg #[.int .i64 d.Index,.int .i64 d.Time,.int .i64 d.Client,.int .i64 d.Seq,.int .i64 d.Op.Kind,.int .i64 d.Op.A,.int .i64 d.Op.B,.int .i64 d.Op.C,.int .i64 d.Op.D]] w (Cp w (.agg #[.int .i64 (Lp d).Client,.int .i64 (Lp d).Seq,.int .i64 (Lp d).Index,.int .i64 (Lp d).Last])):=by
 obtain⟨W0,hW0⟩:∃W0,W0=(w.alloc (.cells #[.int .i64 d.Index,.int .i64 d.Time,.int .i64 d.Client,.int .i64 d.Seq,.int .i64 d.Op.Kind,.int .i64 d.Op.A,.int .i64 d.Op.B,.int .i64 d.Op.C,.int .i64 d.Op.D] 281)).alloc (.cells #[.int .i64 0,.int .i64 0,.int .i64 0,.int .i64 0] 284):=⟨_,rfl⟩
 have hE0:Ext w W0:=by rw[hW0];exact((Ext.refl _).alloc _).alloc _
 have K0:Blk W0 w.heap.size 281 #[.int .i64 d.Index,.int .i64 d.Time,.int .i64 d.Client,.int .i64 d.Seq,.int .i64 d.Op.Kind,.int .i64 d.Op.A,.int .i64 d.Op.B,.int .i64 d.Op.C,.int .i64 d.Op.D]:=by rw[hW0];exact(Blk.new _ _ _).alloc _
 have K1:Blk W0 (w.heap.size+1) 284 #[.int .i64 0,.int .i64 0,.int .i64 0,.int .i64 0]:=by rw[hW0];exact Blk.new2 _ _ _ _
 go_enter Tryz.func366,Tryz.ntmps366
 go_upto_region 1 with(fail)
 rw[<-hW0]
 clear hW0
 have C0:=K0.cell;have F0:=K0.frozen;have L0:=K0.lt;have C1:=K1.cell;have F1:=K1.frozen;have L1:=K1.lt
 go_wp2_with fail
 refine(Ns _ d.Index d.Time d.Client d.Seq d.Op.Kind d.Op.A d.Op.B d.Op.C d.Op.D).mono ?_
 rintro e9 w1⟨rfl,hx1⟩
 have K0:=K0.ext hx1;have K1:=K1.ext hx1
 clear C0 F0 L0 C1 F1 L1
 have C0:=K0.cell;have F0:=K0.frozen;have L0:=K0.lt;have C1:=K1.cell;have F1:=K1.frozen;have L1:=K1.lt
 cases hb:Dt d
 all_goals
  try rw[show Dt (⟨d.Index,d.Time,d.Client,d.Seq,⟨d.Op.Kind,d.Op.A,d.Op.B,d.Op.C,d.Op.D⟩⟩:Aq)=_ from hb]
  go_wp2_with fail
  refine bodyPost_ret (by simp[results,Tryz.results366,go_sem,C0,F0,L0,C1,F1,L1];try rfl) rfl ?_
  exact⟨by rw[Lp,hb];rfl,by exact Aa⟩
theorem qJ(w:World)(d:Aq):Calls Tryz.prog 381 #[.agg #[.int .i64 d.Index,.int .i64 d.Time,.int .i64 d.Client,.int .i64 d.Seq,.int .i64 d.Op.Kind,.int .i64 d.Op.A,.int .i64 d.Op.B,.int .i64 d.Op.C,.int .i64 d.Op.D]] w (Cp w (.agg #[.int .i64 (Lp d).Client,.int .i64 (Lp d).Seq,.int .i64 (Lp d).Index,.int .i64 (Lp d).Last])):=by
 obtain⟨W0,hW0⟩:∃W0,W0=(w.alloc (.cells #[.int .i64 d.Index,.int .i64 d.Time,.int .i64 d.Client,.int .i64 d.Seq,.int .i64 d.Op.Kind,.int .i64 d.Op.A,.int .i64 d.Op.B,.int .i64 d.Op.C,.int .i64 d.Op.D] 281)).alloc (.cells #[.int .i64 0,.int .i64 0,.int .i64 0,.int .i64 0] 284):=⟨_,rfl⟩
 have hE0:Ext w W0:=by rw[hW0];exact((Ext.refl _).alloc _).alloc _
 have K0:Blk W0 w.heap.size 281 #[.int .i64 d.Index,.int .i64 d.Time,.int .i64 d.Client,.int .i64 d.Seq,.int .i64 d.Op.Kind,.int .i64 d.Op.A,.int .i64 d.Op.B,.int .i64 d.Op.C,.int .i64 d.Op.D]:=by rw[hW0];exact(Blk.new _ _ _).alloc _
 have K1:Blk W0 (w.heap.size+1) 284 #[.int .i64 0,.int .i64 0,.int .i64 0,.int .i64 0]:=by rw[hW0];exact Blk.new2 _ _ _ _
 go_enter Tryz.func381,Tryz.ntmps381
 go_upto_region 1 with(fail)
 rw[<-hW0]
 clear hW0
 have C0:=K0.cell;have F0:=K0.frozen;have L0:=K0.lt;have C1:=K1.cell;have F1:=K1.frozen;have L1:=K1.lt
 go_wp2_with fail
 refine(Nr _ d.Index d.Time d.Client d.Seq d.Op.Kind d.Op.A d.Op.B d.Op.C d.Op.D).mono ?_
 rintro e9 w1⟨rfl,hx1⟩
 have K0:=K0.ext hx1;have K1:=K1.ext hx1
 clear C0 F0 L0 C1 F1 L1
 have C0:=K0.cell;have F0:=K0.frozen;have L0:=K0.lt;have C1:=K1.cell;have F1:=K1.frozen;have L1:=K1.lt
 cases hb:Dt d
 all_goals
  try rw[show Dt (⟨d.Index,d.Time,d.Client,d.Seq,⟨d.Op.Kind,d.Op.A,d.Op.B,d.Op.C,d.Op.D⟩⟩:Aq)=_ from hb]
  go_wp2_with fail
  refine bodyPost_ret (by simp[results,Tryz.results381,go_sem,C0,F0,L0,C1,F1,L1];try rfl) rfl ?_
  exact⟨by rw[Lp,hb];rfl,by exact Aa⟩
theorem Um(w:World)(Ae:Int)(Ax:Int)(Fy:Value)(Ao:List Aq)(Ek:Aj 9 w Fy (Ds Ao)):Calls Tryz.prog 306 #[.agg #[.int .i64 Ae,.int .i64 Ax,Fy]] w (Cp w (.bool (Er (⟨Ae,Ax,Ao⟩:Df)))):=by
 obtain⟨a2,cap2,rfl,hcap2,hm2,ha2⟩:=Ek.recs (f:=Aq.ints) (fun _=>rfl) dC
 have HA:=Lib.hid ha2
 clear ha2
 unfold maxLen at hm2
 obtain⟨W0,hW0⟩:∃W0,W0=w.alloc (.cells #[.int .i64 Ae,.int .i64 Ax,.slice a2 Ao.length cap2] 78):=⟨_,rfl⟩
 have hEw:Ext w W0:=by rw[hW0];exact(Ext.refl _).alloc _
 have KX:Blk W0 w.heap.size 78 #[.int .i64 Ae,.int .i64 Ax,.slice a2 Ao.length cap2]:=by rw[hW0];exact Blk.new _ _ _
 have hLX:=KX.lt
 have I0:=KX.cell 0;have I1:=KX.cell 1;have I2:=KX.cell 2
 simp only[List.getElem?_toArray,List.getElem?_cons_zero,List.getElem?_cons_succ] at I0 I1 I2
 go_enter Tryz.func306,Tryz.ntmps306
 go_upto_region 1 with(fail)
 rw[<-hW0]
 clear hW0 KX
 cases p1:inb Ae 0 2000
 .
  go_wp2_with (first|(go_at_call 303;refine(Dv _ _ _ _).mono ?_;rintro e9 w9 ⟨rfl,rfl⟩;rw[p1])|(go_at_call 207;refine(Fh _ _).mono ?_;rintro e9 w9 ⟨rfl,rfl⟩;rw[p2])|(go_at_call 377;refine(Ia _ _ Ao (Ek.ext Aa)).mono ?_;rintro e9 w1 ⟨rfl,hx1⟩;rw[p5];have J0:=hx1.cell I0;have J1:=hx1.cell I1;have J2:=hx1.cell I2;have hLb:w.heap.size<w1.heap.size:=World.block_lt_of_cell? _ _ J0))
  go_ret
  exact⟨by rw[show Er (⟨Ae,Ax,Ao⟩:Df)=false from by simp[Er,p1]];try rfl,by exact Aa⟩
 cases p2:Ea Ax
 .
  go_wp2_with (first|(go_at_call 303;refine(Dv _ _ _ _).mono ?_;rintro e9 w9 ⟨rfl,rfl⟩;rw[p1])|(go_at_call 207;refine(Fh _ _).mono ?_;rintro e9 w9 ⟨rfl,rfl⟩;rw[p2])|(go_at_call 377;refine(Ia _ _ Ao (Ek.ext Aa)).mono ?_;rintro e9 w1 ⟨rfl,hx1⟩;rw[p5];have J0:=hx1.cell I0;have J1:=hx1.cell I1;have J2:=hx1.cell I2;have hLb:w.heap.size<w1.heap.size:=World.block_lt_of_cell? _ _ J0))
  go_ret
  exact⟨by rw[show Er (⟨Ae,Ax,Ao⟩:Df)=false from by simp[Er,p2]];try rfl,by exact Aa⟩
 obtain⟨b3,hb3⟩:∃b,b=(Ae == 0):=⟨_,rfl⟩
 obtain⟨b4,hb4⟩:∃b,b=(Ax != 0):=⟨_,rfl⟩
 by_cases hz:Ae=0/\Ax≠0
 .
  have hb3:(Ae == 0)=true:=by simpa using hz.1
  have hb4:(Ax != 0)=true:=by simpa using hz.2
  have HZ:=Lib.hid hz
  clear hz
  go_wp2_with (first|(go_at_call 303;refine(Dv _ _ _ _).mono ?_;rintro e9 w9 ⟨rfl,rfl⟩;rw[p1])|(go_at_call 207;refine(Fh _ _).mono ?_;rintro e9 w9 ⟨rfl,rfl⟩;rw[p2])|(go_at_call 377;refine(Ia _ _ Ao (Ek.ext Aa)).mono ?_;rintro e9 w1 ⟨rfl,hx1⟩;rw[p5];have J0:=hx1.cell I0;have J1:=hx1.cell I1;have J2:=hx1.cell I2;have hLb:w.heap.size<w1.heap.size:=World.block_lt_of_cell? _ _ J0))
  go_ret
  exact⟨by rw[show Er (⟨Ae,Ax,Ao⟩:Df)=false from by simp[Er,HZ.out.1,HZ.out.2]];try rfl,by exact Aa⟩
 have hbz:b3=true->b4=false:=by intro h;rw[hb3] at h;rw[hb4];simp at h ⊢;exact Classical.byContradiction fun h'=>hz ⟨h,h'⟩
 have HZ:=Lib.hid hz
 have HB3:=Lib.hid hb3.symm;have HB4:=Lib.hid hb4.symm
 clear hz hb3 hb4
 by_cases h20:Ao.length<=20
 rotate_left
 .
  have h20b:decide (20<Ao.length)=true:=by simp;omega
  have q3:=HB3.out;have q4:=HB4.out
  cases b3
  .
   go_wp2_with (first|(go_at_call 303;refine(Dv _ _ _ _).mono ?_;rintro e9 w9 ⟨rfl,rfl⟩;rw[p1])|(go_at_call 207;refine(Fh _ _).mono ?_;rintro e9 w9 ⟨rfl,rfl⟩;rw[p2])|(go_at_call 377;refine(Ia _ _ Ao (Ek.ext Aa)).mono ?_;rintro e9 w1 ⟨rfl,hx1⟩;rw[p5];have J0:=hx1.cell I0;have J1:=hx1.cell I1;have J2:=hx1.cell I2;have hLb:w.heap.size<w1.heap.size:=World.block_lt_of_cell? _ _ J0))
   go_ret
   exact⟨by rw[show Er (⟨Ae,Ax,Ao⟩:Df)=false from by simp[Er,h20]];try rfl,by exact Aa⟩
  have q5:=hbz rfl
  rw[q5] at q4
  go_wp2_with (first|(go_at_call 303;refine(Dv _ _ _ _).mono ?_;rintro e9 w9 ⟨rfl,rfl⟩;rw[p1])|(go_at_call 207;refine(Fh _ _).mono ?_;rintro e9 w9 ⟨rfl,rfl⟩;rw[p2])|(go_at_call 377;refine(Ia _ _ Ao (Ek.ext Aa)).mono ?_;rintro e9 w1 ⟨rfl,hx1⟩;rw[p5];have J0:=hx1.cell I0;have J1:=hx1.cell I1;have J2:=hx1.cell I2;have hLb:w.heap.size<w1.heap.size:=World.block_lt_of_cell? _ _ J0))
  go_ret
  exact⟨by rw[show Er (⟨Ae,Ax,Ao⟩:Df)=false from by simp[Er,h20]];try rfl,by exact Aa⟩
 have h20b:decide (20<Ao.length)=false:=by simp;omega
 cases p5:Jn Ao
 .
  have q3:=HB3.out;have q4:=HB4.out
  cases b3
  .
   go_wp2_with (first|(go_at_call 303;refine(Dv _ _ _ _).mono ?_;rintro e9 w9 ⟨rfl,rfl⟩;rw[p1])|(go_at_call 207;refine(Fh _ _).mono ?_;rintro e9 w9 ⟨rfl,rfl⟩;rw[p2])|(go_at_call 377;refine(Ia _ _ Ao (Ek.ext Aa)).mono ?_;rintro e9 w1 ⟨rfl,hx1⟩;rw[p5];have J0:=hx1.cell I0;have J1:=hx1.cell I1;have J2:=hx1.cell I2;have hLb:w.heap.size<w1.heap.size:=World.block_lt_of_cell? _ _ J0))
   go_ret
   exact⟨by rw[show Er (⟨Ae,Ax,Ao⟩:Df)=false from by simp[Er,p5]];try rfl,by exact Aa⟩
  have q5:=hbz rfl
  rw[q5] at q4
  go_wp2_with (first|(go_at_call 303;refine(Dv _ _ _ _).mono ?_;rintro e9 w9 ⟨rfl,rfl⟩;rw[p1])|(go_at_call 207;refine(Fh _ _).mono ?_;rintro e9 w9 ⟨rfl,rfl⟩;rw[p2])|(go_at_call 377;refine(Ia _ _ Ao (Ek.ext Aa)).mono ?_;rintro e9 w1 ⟨rfl,hx1⟩;rw[p5];have J0:=hx1.cell I0;have J1:=hx1.cell I1;have J2:=hx1.cell I2;have hLb:w.heap.size<w1.heap.size:=World.block_lt_of_cell? _ _ J0))
  go_ret
  exact⟨by rw[show Er (⟨Ae,Ax,Ao⟩:Df)=false from by simp[Er,p5]];try rfl,by exact Aa⟩
 have hpos:Er (⟨Ae,Ax,Ao⟩:Df)=Pm (⟨Ae,Ax,Ao⟩:Df):=by
  simp only[Er];rw[p1,p2,p5,show decide (Ao.length<=20)=true by simpa using h20]
  rw[show(decide (Ae=0)&&decide (Ax≠0))=false by have:=HZ.out;simp;intro h;exact Classical.byContradiction fun h'=>this ⟨h,h'⟩]
  rfl
 have HPOS:=Lib.hid hpos
 clear hpos
 go_cut [34] (fun cx0 wx=>cx0=.bool false/\Ext W0 wx)
 case first =>
  have q3:=HB3.out;have q4:=HB4.out
  cases b3
  .
   go_wp2_with (first|(go_at_call 303;refine(Dv _ _ _ _).mono ?_;rintro e9 w9 ⟨rfl,rfl⟩;rw[p1])|(go_at_call 207;refine(Fh _ _).mono ?_;rintro e9 w9 ⟨rfl,rfl⟩;rw[p2])|(go_at_call 377;refine(Ia _ _ Ao (Ek.ext Aa)).mono ?_;rintro e9 w1 ⟨rfl,hx1⟩;rw[p5];have J0:=hx1.cell I0;have J1:=hx1.cell I1;have J2:=hx1.cell I2;have hLb:w.heap.size<w1.heap.size:=World.block_lt_of_cell? _ _ J0))
   go_meet
   case rel=>exact⟨by first|rfl|(simp;done)|(simp;omega),by exact Aa⟩
  have q5:=hbz rfl
  rw[q5] at q4
  go_wp2_with (first|(go_at_call 303;refine(Dv _ _ _ _).mono ?_;rintro e9 w9 ⟨rfl,rfl⟩;rw[p1])|(go_at_call 207;refine(Fh _ _).mono ?_;rintro e9 w9 ⟨rfl,rfl⟩;rw[p2])|(go_at_call 377;refine(Ia _ _ Ao (Ek.ext Aa)).mono ?_;rintro e9 w1 ⟨rfl,hx1⟩;rw[p5];have J0:=hx1.cell I0;have J1:=hx1.cell I1;have J2:=hx1.cell I2;have hLb:w.heap.size<w1.heap.size:=World.block_lt_of_cell? _ _ J0))
  go_meet
  case rel=>exact⟨by first|rfl|(simp;done)|(simp;omega),by exact Aa⟩
 revert wc;intro w0 hcut
 obtain⟨rfl,hx0⟩:=hcut
 have hEw:=hEw.trans hx0
 have I0:=hx0.cell I0;have I1:=hx0.cell I1;have I2:=hx0.cell I2
 have hLb0:w.heap.size<w0.heap.size:=World.block_lt_of_cell? _ _ I0
 go_upto_region 3 with(first|(go_at_call 303;refine(Dv _ _ _ _).mono ?_;rintro e9 w9 ⟨rfl,rfl⟩;rw[p1])|(go_at_call 207;refine(Fh _ _).mono ?_;rintro e9 w9 ⟨rfl,rfl⟩;rw[p2])|(go_at_call 377;refine(Ia _ _ Ao (Ek.ext Aa)).mono ?_;rintro e9 w1 ⟨rfl,hx1⟩;rw[p5];have J0:=hx1.cell I0;have J1:=hx1.cell I1;have J2:=hx1.cell I2;have hLb:w.heap.size<w1.heap.size:=World.block_lt_of_cell? _ _ J0))
 have w1e:w0=w0:=rfl
 obtain⟨wz,hwz⟩:∃wz,wz=w0:=⟨_,rfl⟩
 rw[<-hwz]
 have hEz:Ext W0 wz:=by rw[hwz];exact hx0
 have hEwz:Ext w wz:=by rw[hwz];exact hEw
 have J0:wz.cell? ⟨w.heap.size,0,none⟩=some (.int .i64 Ae):=by rw[hwz];exact I0
 have J1:wz.cell? ⟨w.heap.size,1,none⟩=some (.int .i64 Ax):=by rw[hwz];exact I1
 have J2:wz.cell? ⟨w.heap.size,2,none⟩=some (.slice a2 Ao.length cap2):=by rw[hwz];exact I2
 clear hwz
 by_cases hl0:Ao.length=0
 .
  have e1:Pm (⟨Ae,Ax,Ao⟩:Df)=true:=by rw[List.eq_nil_of_length_eq_zero hl0];rfl
  have l0b:((Ao.length:Int) == 0)=true:=by simpa using hl0
  have l0c:decide (Ao.length=0)=true:=by simpa using hl0
  have HE:=Lib.hid e1
  clear e1 hl0
  go_wp2_with fail
  go_quiet (fail)
  go_wp2_with fail
  go_ret
  exact⟨by rw[HPOS.out,HE.out];try rfl,by exact Aa⟩
 obtain⟨d,b1,o1,hd,rfl,hb1,c⟩:=HA.out 0 oM
 have d0:=hEwz.cell (c 0 _ dC rfl)
 have d1:=hEwz.cell (c 1 _ dC rfl)
 simp only[Nat.zero_mul,Nat.add_zero] at d0 d1
 have e1:Pm (⟨Ae,Ax,Ao⟩:Df)=(decide (d.Index=Ae+1)&&decide (Ax<=d.Time)):=by
  cases Ao with
  | nil=>simp at hd
  | cons x l=>simp at hd;subst hd;rfl
 have hwr:IntKind.i64.wrap (Ae+1)=Ae+1:=by have:=Dz.1 p1;rw[IntKind.wrap_i64] <;> omega
 have hpl:0<Ao.length:=by omega
 have l0b:((Ao.length:Int) == 0)=false:=by simpa using hl0
 have l0c:decide (Ao.length=0)=false:=by simpa using hl0
 have HE:=Lib.hid e1
 clear e1 hl0 c hd
 by_cases hi:d.Index=Ae+1
 .
  have hi1:(d.Index == Ae+1)=true:=by simpa using hi
  have hi2:decide (d.Index=Ae+1)=true:=by simpa using hi
  have HI:=Lib.hid hi2
  clear hi
  go_wp2_with fail
  go_quiet (fail)
  go_wp2_with fail
  go_ret
  exact⟨by rw[HPOS.out,HE.out,HI.out];first|rfl|(simp;done),by exact Aa⟩
 have hi1:(d.Index == Ae+1)=false:=by simpa using hi
 have hi2:decide (d.Index=Ae+1)=false:=by simpa using hi
 have HI:=Lib.hid hi2
 clear hi
 go_wp2_with fail
 go_quiet (fail)
 go_wp2_with fail
 go_ret
 exact⟨by rw[HPOS.out,HE.out,HI.out];first|rfl|(simp;done),by exact Aa⟩
end Go.Proofs.YtkpmbocbbgocbaaGreat
