/- BkT BkI BkH BkA So Ms So2 EqMark EqH BkK BkB. -/
import Derived.Test.YtkpmbocbbgocbaaGreatB4
import Derived.Test.YtkpmbocbbgocbaaGreatGa
import Derived.Test.YtkpmbocbbgocbaaGreatB0
set_option linter.unusedSimpArgs false
set_option linter.unusedVariables false
set_option maxHeartbeats 16000000
set_option maxRecDepth 100000
namespace Go.Proofs.YtkpmbocbbgocbaaGreat
open Go.RowKit Go.G8
theorem twoOk_c (w:World) (s0_0:Value) (l0_0:List (List Int)) (s0_1:Value) (l0_1:List DWrite) (s0_2:Value) (l0_2:List (List Int)) (s0_3:Value) (l0_3:List DWrite) (h0_0:Nest 0 w s0_0 (nestInt64S l0_0)) (h0_1:Nest 1 w s0_1 (nestWrite l0_1)) (h0_2:Nest 0 w s0_2 (nestInt64S l0_2)) (h0_3:Nest 1 w s0_3 (nestWrite l0_3)) :
  Calls Tryz.prog 183 #[.agg #[s0_0,s0_1,s0_2,s0_3]] w (RetV w (.bool (twoOk (⟨⟨l0_0,l0_1⟩,⟨l0_2,l0_3⟩⟩:DTwo)))):=by
 obtain⟨a0,cap0,rfl,hc0,hm0,-⟩:=Nest.rows h0_0
 obtain⟨a1,n1,k1,rfl⟩:=h0_1.shape
 obtain⟨a2,cap2,rfl,hc2,hm2,-⟩:=Nest.rows h0_2
 obtain⟨a3,n3,k3,rfl⟩:=h0_3.shape
 unfold maxLen at hm0 hm2
 obtain⟨W0,hW0⟩:∃ W0,W0=w.alloc (.cells #[.slice a0 l0_0.length cap0,.slice a1 n1 k1,.slice a2 l0_2.length cap2,.slice a3 n3 k3] 72):=⟨_,rfl⟩
 have hEw:Ext w W0:=by rw [hW0];exact (Ext.refl _).alloc _
 have KX:Blk W0 w.heap.size 72 #[.slice a0 l0_0.length cap0,.slice a1 n1 k1,.slice a2 l0_2.length cap2,.slice a3 n3 k3]:=by rw [hW0];exact Blk.new _ _ _
 have hLX:=KX.lt
 go_enter Tryz.func183,Tryz.ntmps183
 go_upto_region 1 with (fail)
 rw [← hW0]
 clear hW0
 have CX:=KX.cell
 go_wp2_with (first|(go_at_call_of 186 (Value.agg #[.slice a0 l0_0.length cap0,.slice a1 n1 k1]);refine (diskOk_c _ (.slice a0 l0_0.length cap0) _ (.slice a1 n1 k1) _ (h0_0.ext extT) (h0_1.ext extT)).mono ?_;rintro e9 wa ⟨rfl,hxa⟩;have Ka:=KX.ext hxa;have Ca:=Ka.cell;have La:=Ka.lt)|(go_at_call_of 186 (Value.agg #[.slice a2 l0_2.length cap2,.slice a3 n3 k3]);refine (diskOk_c _ (.slice a2 l0_2.length cap2) _ (.slice a3 n3 k3) _ (h0_2.ext extT) (h0_3.ext extT)).mono ?_;rintro e9 wb ⟨rfl,hxb⟩;have Kb:=Ka.ext hxb;have Cb:=Kb.cell;have Lb:=Kb.lt))
 all_goals
  go_ret
  exact⟨by first|rfl|(simp [twoOk, *];done)|(simp_all [twoOk,bq,bn];done)|(simp_all [twoOk,bq,bn];omega),by exact extT⟩
theorem sTwoOk_c (w:World) (s0_0:Value) (l0_0:List (List Int)) (s0_1:Value) (l0_1:List DWrite) (s0_2:Value) (l0_2:List (List Int)) (s0_3:Value) (l0_3:List DWrite) (h0_0:Nest 0 w s0_0 (nestInt64S l0_0)) (h0_1:Nest 1 w s0_1 (nestWrite l0_1)) (h0_2:Nest 0 w s0_2 (nestInt64S l0_2)) (h0_3:Nest 1 w s0_3 (nestWrite l0_3)) :
  Calls Tryz.prog 313 #[.agg #[s0_0,s0_1,s0_2,s0_3]] w (RetV w (.bool (twoOk (⟨⟨l0_0,l0_1⟩,⟨l0_2,l0_3⟩⟩:DTwo)))):=by
 obtain⟨a0,cap0,rfl,hc0,hm0,-⟩:=Nest.rows h0_0
 obtain⟨a1,n1,k1,rfl⟩:=h0_1.shape
 obtain⟨a2,cap2,rfl,hc2,hm2,-⟩:=Nest.rows h0_2
 obtain⟨a3,n3,k3,rfl⟩:=h0_3.shape
 unfold maxLen at hm0 hm2
 obtain⟨W0,hW0⟩:∃ W0,W0=w.alloc (.cells #[.slice a0 l0_0.length cap0,.slice a1 n1 k1,.slice a2 l0_2.length cap2,.slice a3 n3 k3] 72):=⟨_,rfl⟩
 have hEw:Ext w W0:=by rw [hW0];exact (Ext.refl _).alloc _
 have KX:Blk W0 w.heap.size 72 #[.slice a0 l0_0.length cap0,.slice a1 n1 k1,.slice a2 l0_2.length cap2,.slice a3 n3 k3]:=by rw [hW0];exact Blk.new _ _ _
 have hLX:=KX.lt
 go_enter Tryz.func313,Tryz.ntmps313
 go_upto_region 1 with (fail)
 rw [← hW0]
 clear hW0
 have CX:=KX.cell
 go_wp2_with (first|(go_at_call_of 317 (Value.agg #[.slice a0 l0_0.length cap0,.slice a1 n1 k1]);refine (sDiskOk_c _ (.slice a0 l0_0.length cap0) _ (.slice a1 n1 k1) _ (h0_0.ext extT) (h0_1.ext extT)).mono ?_;rintro e9 wa ⟨rfl,hxa⟩;have Ka:=KX.ext hxa;have Ca:=Ka.cell;have La:=Ka.lt)|(go_at_call_of 317 (Value.agg #[.slice a2 l0_2.length cap2,.slice a3 n3 k3]);refine (sDiskOk_c _ (.slice a2 l0_2.length cap2) _ (.slice a3 n3 k3) _ (h0_2.ext extT) (h0_3.ext extT)).mono ?_;rintro e9 wb ⟨rfl,hxb⟩;have Kb:=Ka.ext hxb;have Cb:=Kb.cell;have Lb:=Kb.lt))
 all_goals
  go_ret
  exact⟨by first|rfl|(simp [twoOk, *];done)|(simp_all [twoOk,bq,bn];done)|(simp_all [twoOk,bq,bn];omega),by exact extT⟩
theorem sKeptOk_c (w:World) (s0_0:Value) (l0_0:List (List Int)) (s0_1:Value) (l0_1:List DWrite) (s0_2:Value) (l0_2:List (List Int)) (s0_3:Value) (l0_3:List DWrite) (h0_0:Nest 0 w s0_0 (nestInt64S l0_0)) (h0_1:Nest 1 w s0_1 (nestWrite l0_1)) (h0_2:Nest 0 w s0_2 (nestInt64S l0_2)) (h0_3:Nest 1 w s0_3 (nestWrite l0_3)) :
  Calls Tryz.prog 304 #[.agg #[s0_0,s0_1,s0_2,s0_3]] w (RetV w (.bool (keptOk (⟨⟨l0_0,l0_1⟩,⟨l0_2,l0_3⟩⟩:DTwo)))):=by
 obtain⟨a0,cap0,rfl,hc0,hm0,-⟩:=Nest.rows h0_0
 obtain⟨a1,n1,k1,rfl⟩:=h0_1.shape
 obtain⟨a2,cap2,rfl,hc2,hm2,-⟩:=Nest.rows h0_2
 obtain⟨a3,n3,k3,rfl⟩:=h0_3.shape
 unfold maxLen at hm0 hm2
 obtain⟨W0,hW0⟩:∃ W0,W0=w.alloc (.cells #[.slice a0 l0_0.length cap0,.slice a1 n1 k1,.slice a2 l0_2.length cap2,.slice a3 n3 k3] 72):=⟨_,rfl⟩
 have hEw:Ext w W0:=by rw [hW0];exact (Ext.refl _).alloc _
 have KX:Blk W0 w.heap.size 72 #[.slice a0 l0_0.length cap0,.slice a1 n1 k1,.slice a2 l0_2.length cap2,.slice a3 n3 k3]:=by rw [hW0];exact Blk.new _ _ _
 have hLX:=KX.lt
 go_enter Tryz.func304,Tryz.ntmps304
 go_upto_region 1 with (fail)
 rw [← hW0]
 clear hW0
 have CX:=KX.cell
 go_wp2_with (first|(go_at_call 313;refine (sTwoOk_c _ (.slice a0 l0_0.length cap0) _ (.slice a1 n1 k1) _ (.slice a2 l0_2.length cap2) _ (.slice a3 n3 k3) _ (h0_0.ext extT) (h0_1.ext extT) (h0_2.ext extT) (h0_3.ext extT)).mono ?_;rintro e9 wa ⟨rfl,hxa⟩;have Ka:=KX.ext hxa;have Ca:=Ka.cell;have La:=Ka.lt))
 all_goals
  go_ret
  exact⟨by first|rfl|(simp [keptOk, *];done)|(simp_all [keptOk,bq,bn];done)|(simp_all [keptOk,bq,bn];omega),by exact extT⟩
theorem rqB50 {p:Prop} (h:p:=by intro KQ hKQ;(repeat (first|go_big_quiet_skip|(go_big_quiet_want;first|(refine quiet_load _ _ _ ?_ rfl rfl (fun wq hq=>?_) ?_;rotate_left;(focus ((try have y0:=hq.cell I0);(try have y1:=hq.cell I1);(try have y2:=hq.cell I2);(try have y3:=hq.cell I3);go_simp;first|done|rfl));(try simp only [redA,Act.put]);go_big_quiet_on)|(go_big_quiet_op;first|go_big_quiet_on|(refine⟨_,fun _ _=>rfl,?_⟩;go_big_quiet_on)|(apply Exists.intro;refine⟨fun wq hq=>?_,?_⟩;(focus (first|(go_at_call_of 303 (Value.int .i64 2000);exact call_same hq (by have c:=l1In_c wq c0_1 0 2000;rw [p1] at c;exact c))));go_big_quiet_on)))));exact wpQuiet_nil hKQ):p:=h
theorem rqB51 {p:Prop} (h:p:=by intro KQ hKQ;(repeat (first|go_big_quiet_skip|(go_big_quiet_want;first|(refine quiet_load _ _ _ ?_ rfl rfl (fun wq hq=>?_) ?_;rotate_left;(focus ((try have y0:=hq.cell I0);(try have y1:=hq.cell I1);(try have y2:=hq.cell I2);(try have y3:=hq.cell I3);go_simp;first|done|rfl));(try simp only [redA,Act.put]);go_big_quiet_on)|(go_big_quiet_op;first|go_big_quiet_on|(refine⟨_,fun _ _=>rfl,?_⟩;go_big_quiet_on)|(apply Exists.intro;refine⟨fun wq hq=>?_,?_⟩;(focus (first|(go_at_call_of 303 (Value.int .i64 2000);exact call_same hq (by have c:=l1In_c wq c0_1 0 2000;rw [p1] at c;exact c))|(go_at_call_of 303 (Value.int .i64 c0_0);exact call_same hq (by have c:=l1In_c wq c0_0 0 c0_1;rw [p2] at c;exact c))));go_big_quiet_on)))));exact wpQuiet_nil hKQ):p:=h
theorem rqB52 {p:Prop} (h:p:=by intro KQ hKQ;(repeat (first|go_big_quiet_skip|(go_big_quiet_want;first|(refine quiet_load _ _ _ ?_ rfl rfl (fun wq hq=>?_) ?_;rotate_left;(focus ((try have y0:=hq.cell I0);(try have y1:=hq.cell I1);(try have y2:=hq.cell I2);(try have y3:=hq.cell I3);go_simp;first|done|rfl));(try simp only [redA,Act.put]);go_big_quiet_on)|(go_big_quiet_op;first|go_big_quiet_on|(refine⟨_,fun _ _=>rfl,?_⟩;go_big_quiet_on)|(apply Exists.intro;refine⟨fun wq hq=>?_,?_⟩;(focus (first|(go_at_call_of 303 (Value.int .i64 2000);exact call_same hq (by have c:=l1In_c wq c0_1 0 2000;rw [p1] at c;exact c))|(go_at_call_of 303 (Value.int .i64 c0_0);exact call_same hq (by have c:=l1In_c wq c0_0 0 c0_1;rw [p2] at c;exact c))|(go_at_call 207;exact call_same hq (by have c:=sTimeOk_c wq c0_2;rw [p3] at c;exact c))));go_big_quiet_on)))));exact wpQuiet_nil hKQ):p:=h
theorem rqB53 {p:Prop} (h:p:=by intro KQ hKQ;(repeat (first|go_big_quiet_skip|(go_big_quiet_want;first|(refine quiet_load _ _ _ ?_ rfl rfl (fun wq hq=>?_) ?_;rotate_left;(focus ((try have y0:=hq.cell I0);(try have y1:=hq.cell I1);(try have y2:=hq.cell I2);(try have y3:=hq.cell I3);go_simp;first|done|rfl));(try simp only [redA,Act.put]);go_big_quiet_on)|(go_big_quiet_op;first|go_big_quiet_on|(refine⟨_,fun _ _=>rfl,?_⟩;go_big_quiet_on)|(apply Exists.intro;refine⟨fun wq hq=>?_,?_⟩;(focus (first|(go_at_call_of 303 (Value.int .i64 2000);exact call_same hq (by have c:=l1In_c wq c0_1 0 2000;rw [p1] at c;exact c))|(go_at_call_of 303 (Value.int .i64 c0_0);exact call_same hq (by have c:=l1In_c wq c0_0 0 c0_1;rw [p2] at c;exact c))|(go_at_call 207;exact call_same hq (by have c:=sTimeOk_c wq c0_2;rw [p3] at c;exact c))|(go_at_call 375;exact call_ext hq (by have c:=sSeenOk_c wq _ l0_3 (h0_3.ext (hEw.trans hq));rw [p5] at c;exact c))));go_big_quiet_on)))));exact wpQuiet_nil hKQ):p:=h
theorem rqB54 {p:Prop} (h:p:=by intro KQ hKQ;(repeat (first|go_big_quiet_skip|(go_big_quiet_want;first|(refine quiet_load _ _ _ ?_ rfl rfl (fun wq hq=>?_) ?_;rotate_left;(focus ((try have y0:=hq.cell I0);(try have y1:=hq.cell I1);(try have y2:=hq.cell I2);(try have y3:=hq.cell I3);go_simp;first|done|rfl));(try simp only [redA,Act.put]);go_big_quiet_on)|(go_big_quiet_op;first|go_big_quiet_on|(refine⟨_,fun _ _=>rfl,?_⟩;go_big_quiet_on)|(apply Exists.intro;refine⟨fun wq hq=>?_,?_⟩;(focus (first|(go_at_call_of 303 (Value.int .i64 2000);exact call_same hq (by have c:=l1In_c wq c0_1 0 2000;rw [p1] at c;exact c))|(go_at_call_of 303 (Value.int .i64 c0_0);exact call_same hq (by have c:=l1In_c wq c0_0 0 c0_1;rw [p2] at c;exact c))|(go_at_call 207;exact call_same hq (by have c:=sTimeOk_c wq c0_2;rw [p3] at c;exact c))|(go_at_call 375;exact call_ext hq (by have c:=sSeenOk_c wq _ l0_3 (h0_3.ext (hEw.trans hq));rw [p5] at c;exact c))|(go_at_call 376;exact call_ext hq (sLastSeen_c wq _ l0_3 (h0_3.ext (hEw.trans hq)) p5))));go_big_quiet_on)))));exact wpQuiet_nil hKQ):p:=h
theorem sHeadOk_c (w:World) (c0_0:Int) (c0_1:Int) (c0_2:Int) (s0_3:Value) (l0_3:List DMark) (h0_3:Ints 3 w s0_3 (flMark l0_3)) :
  Calls Tryz.prog 305 #[.agg #[.int .i64 c0_0,.int .i64 c0_1,.int .i64 c0_2,s0_3]] w (RetV w (.bool (headOk (⟨c0_0,c0_1,c0_2,l0_3⟩:DHead)))):=by
 obtain⟨a3,n3,k3,rfl⟩:=h0_3.shape
 obtain⟨W0,hW0⟩:∃ W0,W0=w.alloc (.cells #[.int .i64 c0_0,.int .i64 c0_1,.int .i64 c0_2,.slice a3 n3 k3] 75):=⟨_,rfl⟩
 have hEw:Ext w W0:=by rw [hW0];exact (Ext.refl _).alloc _
 have KX:Blk W0 w.heap.size 75 #[.int .i64 c0_0,.int .i64 c0_1,.int .i64 c0_2,.slice a3 n3 k3]:=by rw [hW0];exact Blk.new _ _ _
 have hLX:=KX.lt
 have I0:=KX.cell 0;have I1:=KX.cell 1;have I2:=KX.cell 2;have I3:=KX.cell 3
 simp only [List.getElem?_toArray,List.getElem?_cons_zero,List.getElem?_cons_succ] at I0 I1 I2 I3
 go_enter Tryz.func305,Tryz.ntmps305
 go_upto_region 1 with (fail)
 rw [← hW0]
 clear hW0 KX
 cases p1:inb c0_1 0 2000
 ·
  refine rx0 rqB50 fun w1 hx1=>?_
  go_wp2_with fail
  go_ret
  exact⟨by rw [show headOk (⟨c0_0,c0_1,c0_2,l0_3⟩:DHead)=false from by simp [headOk,p1]];try rfl,by exact extT⟩
 cases p2:inb c0_0 0 c0_1
 ·
  refine rx0 rqB51 fun w1 hx1=>?_
  go_wp2_with fail
  go_ret
  exact⟨by rw [show headOk (⟨c0_0,c0_1,c0_2,l0_3⟩:DHead)=false from by simp [headOk,p2]];try rfl,by exact extT⟩
 cases p3:timeOk c0_2
 ·
  refine rx0 rqB52 fun w1 hx1=>?_
  go_wp2_with fail
  go_ret
  exact⟨by rw [show headOk (⟨c0_0,c0_1,c0_2,l0_3⟩:DHead)=false from by simp [headOk,p3]];try rfl,by exact extT⟩
 by_cases hb:0<c0_1
 ·
  have hb1:decide (0<c0_1)=true:=by simpa using hb
  cases p5:seenOk l0_3
  ·
   refine rx0 rqB53 fun w1 hx1=>?_
   go_wp2_with fail
   go_ret
   exact⟨by rw [show headOk (⟨c0_0,c0_1,c0_2,l0_3⟩:DHead)=false from by simp [headOk,p5]];try rfl,by exact extT⟩
  refine rx0 rqB54 fun w1 hx1=>?_
  go_wp2_with fail
  go_ret
  exact⟨by rw [show headOk (⟨c0_0,c0_1,c0_2,l0_3⟩:DHead)=decide (lastSeen l0_3=c0_1) from by simp [headOk,p1,p2,p3,p5,hb]];first|rfl|(simp [bq];done),by exact extT⟩
 have hb1:decide (0<c0_1)=false:=by simpa using hb
 by_cases hz:c0_2=0
 rotate_left
 ·
  have hz1:(c0_2 == 0)=false:=by simpa using hz
  have HZ:=Lib.hid hz
  clear hz
  refine rx0 rqB52 fun w1 hx1=>?_
  go_wp2_with fail
  go_ret
  exact⟨by rw [show headOk (⟨c0_0,c0_1,c0_2,l0_3⟩:DHead)=false from by simp only [headOk];rw [hb1];simp [HZ.out]];try rfl,by exact extT⟩
 have hz1:(c0_2 == 0)=true:=by simpa using hz
 have HZ:=Lib.hid hz
 clear hz
 cases p5:seenOk l0_3
 ·
  refine rx0 rqB53 fun w1 hx1=>?_
  go_wp2_with fail
  go_ret
  exact⟨by rw [show headOk (⟨c0_0,c0_1,c0_2,l0_3⟩:DHead)=false from by simp [headOk,p5]];try rfl,by exact extT⟩
 refine rx0 rqB54 fun w1 hx1=>?_
 go_wp2_with fail
 go_ret
 exact⟨by rw [show headOk (⟨c0_0,c0_1,c0_2,l0_3⟩:DHead)=decide (lastSeen l0_3=c0_1) from by simp only [headOk];rw [p1,p2,p3,p5];simp [HZ.out]];first|rfl|(simp [bq];done),by exact extT⟩
theorem rqB55 {p:Prop} (h:p:=by intro KQ hKQ;(repeat (first|go_big_quiet_skip|(go_big_quiet_want;first|(refine quiet_load _ _ _ ?_ rfl rfl (fun wq hq=>?_) ?_;rotate_left;(focus ((try have y0:=hq.cell I0);(try have y1:=hq.cell I1);(try have y2:=hq.cell I2);(try have y3:=hq.cell I3);go_simp;first|done|rfl));(try simp only [redA,Act.put]);go_big_quiet_on)|(go_big_quiet_op;first|go_big_quiet_on|(refine⟨_,fun _ _=>rfl,?_⟩;go_big_quiet_on)|(apply Exists.intro;refine⟨fun wq hq=>?_,?_⟩;(focus (first|(go_at_call_of 176 (Value.int .i64 2000);exact call_same hq (by have c:=between_c wq c0_1 0 2000;rw [p1] at c;exact c))));go_big_quiet_on)))));exact wpQuiet_nil hKQ):p:=h
theorem rqB56 {p:Prop} (h:p:=by intro KQ hKQ;(repeat (first|go_big_quiet_skip|(go_big_quiet_want;first|(refine quiet_load _ _ _ ?_ rfl rfl (fun wq hq=>?_) ?_;rotate_left;(focus ((try have y0:=hq.cell I0);(try have y1:=hq.cell I1);(try have y2:=hq.cell I2);(try have y3:=hq.cell I3);go_simp;first|done|rfl));(try simp only [redA,Act.put]);go_big_quiet_on)|(go_big_quiet_op;first|go_big_quiet_on|(refine⟨_,fun _ _=>rfl,?_⟩;go_big_quiet_on)|(apply Exists.intro;refine⟨fun wq hq=>?_,?_⟩;(focus (first|(go_at_call_of 176 (Value.int .i64 2000);exact call_same hq (by have c:=between_c wq c0_1 0 2000;rw [p1] at c;exact c))|(go_at_call_of 176 (Value.int .i64 c0_0);exact call_same hq (by have c:=between_c wq c0_0 0 c0_1;rw [p2] at c;exact c))));go_big_quiet_on)))));exact wpQuiet_nil hKQ):p:=h
theorem rqB57 {p:Prop} (h:p:=by intro KQ hKQ;(repeat (first|go_big_quiet_skip|(go_big_quiet_want;first|(refine quiet_load _ _ _ ?_ rfl rfl (fun wq hq=>?_) ?_;rotate_left;(focus ((try have y0:=hq.cell I0);(try have y1:=hq.cell I1);(try have y2:=hq.cell I2);(try have y3:=hq.cell I3);go_simp;first|done|rfl));(try simp only [redA,Act.put]);go_big_quiet_on)|(go_big_quiet_op;first|go_big_quiet_on|(refine⟨_,fun _ _=>rfl,?_⟩;go_big_quiet_on)|(apply Exists.intro;refine⟨fun wq hq=>?_,?_⟩;(focus (first|(go_at_call_of 176 (Value.int .i64 2000);exact call_same hq (by have c:=between_c wq c0_1 0 2000;rw [p1] at c;exact c))|(go_at_call_of 176 (Value.int .i64 c0_0);exact call_same hq (by have c:=between_c wq c0_0 0 c0_1;rw [p2] at c;exact c))|(go_at_call 177;exact call_same hq (by have c:=timeOk_c wq c0_2;rw [p3] at c;exact c))));go_big_quiet_on)))));exact wpQuiet_nil hKQ):p:=h
theorem rqB58 {p:Prop} (h:p:=by intro KQ hKQ;(repeat (first|go_big_quiet_skip|(go_big_quiet_want;first|(refine quiet_load _ _ _ ?_ rfl rfl (fun wq hq=>?_) ?_;rotate_left;(focus ((try have y0:=hq.cell I0);(try have y1:=hq.cell I1);(try have y2:=hq.cell I2);(try have y3:=hq.cell I3);go_simp;first|done|rfl));(try simp only [redA,Act.put]);go_big_quiet_on)|(go_big_quiet_op;first|go_big_quiet_on|(refine⟨_,fun _ _=>rfl,?_⟩;go_big_quiet_on)|(apply Exists.intro;refine⟨fun wq hq=>?_,?_⟩;(focus (first|(go_at_call_of 176 (Value.int .i64 2000);exact call_same hq (by have c:=between_c wq c0_1 0 2000;rw [p1] at c;exact c))|(go_at_call_of 176 (Value.int .i64 c0_0);exact call_same hq (by have c:=between_c wq c0_0 0 c0_1;rw [p2] at c;exact c))|(go_at_call 177;exact call_same hq (by have c:=timeOk_c wq c0_2;rw [p3] at c;exact c))|(go_at_call 357;exact call_ext hq (by have c:=seenOk_c wq _ l0_3 (h0_3.ext (hEw.trans hq));rw [p5] at c;exact c))));go_big_quiet_on)))));exact wpQuiet_nil hKQ):p:=h
theorem rqB59 {p:Prop} (h:p:=by intro KQ hKQ;(repeat (first|go_big_quiet_skip|(go_big_quiet_want;first|(refine quiet_load _ _ _ ?_ rfl rfl (fun wq hq=>?_) ?_;rotate_left;(focus ((try have y0:=hq.cell I0);(try have y1:=hq.cell I1);(try have y2:=hq.cell I2);(try have y3:=hq.cell I3);go_simp;first|done|rfl));(try simp only [redA,Act.put]);go_big_quiet_on)|(go_big_quiet_op;first|go_big_quiet_on|(refine⟨_,fun _ _=>rfl,?_⟩;go_big_quiet_on)|(apply Exists.intro;refine⟨fun wq hq=>?_,?_⟩;(focus (first|(go_at_call_of 176 (Value.int .i64 2000);exact call_same hq (by have c:=between_c wq c0_1 0 2000;rw [p1] at c;exact c))|(go_at_call_of 176 (Value.int .i64 c0_0);exact call_same hq (by have c:=between_c wq c0_0 0 c0_1;rw [p2] at c;exact c))|(go_at_call 177;exact call_same hq (by have c:=timeOk_c wq c0_2;rw [p3] at c;exact c))|(go_at_call 357;exact call_ext hq (by have c:=seenOk_c wq _ l0_3 (h0_3.ext (hEw.trans hq));rw [p5] at c;exact c))|(go_at_call 358;exact call_ext hq (lastSeen_c wq _ l0_3 (h0_3.ext (hEw.trans hq))))));go_big_quiet_on)))));exact wpQuiet_nil hKQ):p:=h
theorem headOk_c (w:World) (c0_0:Int) (c0_1:Int) (c0_2:Int) (s0_3:Value) (l0_3:List DMark) (h0_3:Ints 3 w s0_3 (flMark l0_3)) :
  Calls Tryz.prog 280 #[.agg #[.int .i64 c0_0,.int .i64 c0_1,.int .i64 c0_2,s0_3]] w (RetV w (.bool (headOk (⟨c0_0,c0_1,c0_2,l0_3⟩:DHead)))):=by
 obtain⟨a3,n3,k3,rfl⟩:=h0_3.shape
 obtain⟨W0,hW0⟩:∃ W0,W0=w.alloc (.cells #[.int .i64 c0_0,.int .i64 c0_1,.int .i64 c0_2,.slice a3 n3 k3] 75):=⟨_,rfl⟩
 have hEw:Ext w W0:=by rw [hW0];exact (Ext.refl _).alloc _
 have KX:Blk W0 w.heap.size 75 #[.int .i64 c0_0,.int .i64 c0_1,.int .i64 c0_2,.slice a3 n3 k3]:=by rw [hW0];exact Blk.new _ _ _
 have hLX:=KX.lt
 have I0:=KX.cell 0;have I1:=KX.cell 1;have I2:=KX.cell 2;have I3:=KX.cell 3
 simp only [List.getElem?_toArray,List.getElem?_cons_zero,List.getElem?_cons_succ] at I0 I1 I2 I3
 go_enter Tryz.func280,Tryz.ntmps280
 go_upto_region 1 with (fail)
 rw [← hW0]
 clear hW0 KX
 cases p1:inb c0_1 0 2000
 ·
  refine rx0 rqB55 fun w1 hx1=>?_
  go_wp2_with fail
  go_ret
  exact⟨by rw [show headOk (⟨c0_0,c0_1,c0_2,l0_3⟩:DHead)=false from by simp [headOk,p1]];try rfl,by exact extT⟩
 cases p2:inb c0_0 0 c0_1
 ·
  refine rx0 rqB56 fun w1 hx1=>?_
  go_wp2_with fail
  go_ret
  exact⟨by rw [show headOk (⟨c0_0,c0_1,c0_2,l0_3⟩:DHead)=false from by simp [headOk,p2]];try rfl,by exact extT⟩
 cases p3:timeOk c0_2
 ·
  refine rx0 rqB57 fun w1 hx1=>?_
  go_wp2_with fail
  go_ret
  exact⟨by rw [show headOk (⟨c0_0,c0_1,c0_2,l0_3⟩:DHead)=false from by simp [headOk,p3]];try rfl,by exact extT⟩
 by_cases hb:0<c0_1
 ·
  have hb1:decide (0<c0_1)=true:=by simpa using hb
  cases p5:seenOk l0_3
  ·
   refine rx0 rqB58 fun w1 hx1=>?_
   go_wp2_with fail
   go_ret
   exact⟨by rw [show headOk (⟨c0_0,c0_1,c0_2,l0_3⟩:DHead)=false from by simp [headOk,p5]];try rfl,by exact extT⟩
  refine rx0 rqB59 fun w1 hx1=>?_
  go_wp2_with fail
  go_ret
  exact⟨by rw [show headOk (⟨c0_0,c0_1,c0_2,l0_3⟩:DHead)=decide (lastSeen l0_3=c0_1) from by simp [headOk,p1,p2,p3,p5,hb]];first|rfl|(simp [bq];done),by exact extT⟩
 have hb1:decide (0<c0_1)=false:=by simpa using hb
 by_cases hz:c0_2=0
 rotate_left
 ·
  have hz1:(c0_2 == 0)=false:=by simpa using hz
  have HZ:=Lib.hid hz
  clear hz
  refine rx0 rqB57 fun w1 hx1=>?_
  go_wp2_with fail
  go_ret
  exact⟨by rw [show headOk (⟨c0_0,c0_1,c0_2,l0_3⟩:DHead)=false from by simp only [headOk];rw [hb1];simp [HZ.out]];try rfl,by exact extT⟩
 have hz1:(c0_2 == 0)=true:=by simpa using hz
 have HZ:=Lib.hid hz
 clear hz
 cases p5:seenOk l0_3
 ·
  refine rx0 rqB58 fun w1 hx1=>?_
  go_wp2_with fail
  go_ret
  exact⟨by rw [show headOk (⟨c0_0,c0_1,c0_2,l0_3⟩:DHead)=false from by simp [headOk,p5]];try rfl,by exact extT⟩
 refine rx0 rqB59 fun w1 hx1=>?_
 go_wp2_with fail
 go_ret
 exact⟨by rw [show headOk (⟨c0_0,c0_1,c0_2,l0_3⟩:DHead)=decide (lastSeen l0_3=c0_1) from by simp only [headOk];rw [p1,p2,p3,p5];simp [HZ.out]];first|rfl|(simp [bq];done),by exact extT⟩
end Go.Proofs.YtkpmbocbbgocbaaGreat
namespace Go.G8
open Go.RowKit
theorem ownApp2 {B:Nat} {e:TypeId} {n:Nat} {w:World} {v:Value} {xs ys zs:List Int} (h:Own B e n w v (xs.map (.int .i64) ++ ys.map (.int .i64) ++ zs.map (.int .i64))):OwnI B e n w v (xs ++ ys ++ zs):=by
 rw [← List.map_append,← List.map_append] at h;exact h
theorem ownApp {B:Nat} {e:TypeId} {n:Nat} {w:World} {v:Value} {xs ys:List Int} (h:Own B e n w v (xs.map (.int .i64) ++ ys.map (.int .i64))):OwnI B e n w v (xs ++ ys):=by
 rw [← List.map_append] at h;exact h
theorem Sl.oneAtM (w:World) (cur:Array Value) (t:TypeId) (n b:Nat) (hb:b=w.heap.size) (hn:cur.size=n):Sl n (w.alloc (.cells cur t)) (.slice (some ⟨b,0,none⟩) 1 1) cur.toList:=by
 subst hb;exact Sl.one w cur t n hn
theorem OwnI.lit0m (w:World) (e:TypeId) (n:Nat):OwnI w.heap.size e n (w.alloc (.cells #[] e)) (.slice (some ⟨w.heap.size,0,none⟩) 0 0) [] :=
 Own.of_blk (cap:=0) (Blk.new w e #[]) (Nat.le_refl _) (by simp) (by simp) (Nat.le_refl _) dC (fun j hj=>by rw [Nat.zero_mul] at hj;omega)
end Go.G8
namespace Go.Proofs.YtkpmbocbbgocbaaGreat
open Go.RowKit Go.G8
theorem flMark_one (l:List DMark) (d:DMark):flMark (l ++ [d])=flMark l ++ [d.Client,d.Seq,d.Index]:=by simp [flMark,DMark.ints,List.flatMap_append]
theorem infoMk:(Tryz.prog.info? 290).map (fun i=>(i.zero,i.size,i.bytes))=some (some (.agg #[.int .i64 0,.int .i64 0,.int .i64 0]),3,24):=by kernel_rfl
theorem l9Copy_c (w:World) (v:Value) (l:List DMark) (h:Ints 3 w v (flMark l)) (e0:l.length≤1000000) :
  Calls Tryz.prog 378 #[v] w (Ret w fun r0 w'=>OwnI w.heap.size 290 3 w' r0 (flMark l)):=by
 obtain⟨a0,n0,k0,rfl⟩:=h.shape
 obtain⟨i0,hi,hz0,hz1,hz2⟩:=info_parts infoMk
 go_enter Tryz.func378,Tryz.ntmps378
 go_wp2_with (first|(at_builtin;refine wp_append_fresh rfl (.tmp 3) (.tmp 4) 73 rfl 290 i0 _ 3 24 Tryz.underlying73 hi hz0 hz1 hz2 rfl dC w.heap.size (by simp) rfl (.slice a0 n0 k0) ((flMark l).map (.int .i64)) rfl h (ints_oneCell _ _) 1000000 (by have:=length_flMark l;simp;omega) (by unfold maxLen;omega) oM ?_;rotate_right;intro t5 w1 g5 hx1;obtain⟨ta5,tn5,tc5,rfl⟩:=g5.sl.shape))
 go_ret
 exact⟨_,rfl,hx1,g5⟩
theorem putM_len (l:List DMark) (x:DMark):(markPut l x).length≤l.length+1:=by
 induction l with
 | nil=>simp [markPut]
 | cons y l ih=>rw [markPut];split <;> (try split) <;> simp <;> omega
theorem rqB510 {p:Prop} (h:p:=by intro KQ hKQ;(repeat (first|go_big_quiet_skip|(go_big_quiet_want;first|(refine quiet_load _ _ _ ?_ rfl rfl (fun wq hq=>?_) ?_;rotate_left;(focus ((try have y0:=hq.cell x0);(try have y1:=hq.cell x1);(try have y2:=hq.cell x2);(try have y3:=hq.cell x3);(try have y4:=hq.cell x4);(try have y5:=hq.cell x5);(try have y6:=hq.cell x6);(try have y7:=hq.cell x7);(try have y8:=hq.cell x8);go_simp;first|done|rfl));(try simp only [redA,Act.put]);go_big_quiet_on)|(go_big_quiet_op;first|go_big_quiet_on|(refine⟨_,fun _ _=>rfl,?_⟩;go_big_quiet_on)|(apply Exists.intro;refine⟨fun wq hq=>?_,?_⟩;(focus (first|exact call_ext hq (by have c:=sEntryOk_e wq e.Index e.Time e.Client e.Seq e.Op.Kind e.Op.A e.Op.B e.Op.C e.Op.D;rw [show entryOk (⟨e.Index,e.Time,e.Client,e.Seq,⟨e.Op.Kind,e.Op.A,e.Op.B,e.Op.C,e.Op.D⟩⟩:DEntry)=false from hp] at c;exact c)|exact call_ext hq (by have c:=freshIn_c wq _ s e.Client e.Seq (h.ext (hE1.trans hq)) HS.out p3 p4;rw [hf] at c;exact c)|exact call_ext hq (sLastSeen_c wq _ s (h.ext (hE1.trans hq)) HS.out)));go_big_quiet_on)))));exact wpQuiet_nil hKQ):p:=h
theorem rqB511 {p:Prop} (h:p:=by intro KQ hKQ;(repeat (first|go_big_quiet_skip|(go_big_quiet_want;first|(refine quiet_load _ _ _ ?_ rfl rfl (fun wq hq=>?_) ?_;rotate_left;(focus ((try have y0:=hq.cell x0);(try have y1:=hq.cell x1);(try have y2:=hq.cell x2);(try have y3:=hq.cell x3);(try have y4:=hq.cell x4);(try have y5:=hq.cell x5);(try have y6:=hq.cell x6);(try have y7:=hq.cell x7);(try have y8:=hq.cell x8);go_simp;first|done|rfl));(try simp only [redA,Act.put]);go_big_quiet_on)|(go_big_quiet_op;first|go_big_quiet_on|(refine⟨_,fun _ _=>rfl,?_⟩;go_big_quiet_on)|(apply Exists.intro;refine⟨fun wq hq=>?_,?_⟩;(focus (first|exact call_ext hq (by have c:=sEntryOk_e wq e.Index e.Time e.Client e.Seq e.Op.Kind e.Op.A e.Op.B e.Op.C e.Op.D;rw [show entryOk (⟨e.Index,e.Time,e.Client,e.Seq,⟨e.Op.Kind,e.Op.A,e.Op.B,e.Op.C,e.Op.D⟩⟩:DEntry)=true from hp] at c;exact c)|exact call_ext hq (by have c:=freshIn_c wq _ s e.Client e.Seq (h.ext (hE1.trans hq)) HS.out p3 p4;rw [hf] at c;exact c)|exact call_ext hq (sLastSeen_c wq _ s (h.ext (hE1.trans hq)) HS.out)));go_big_quiet_on)))));exact wpQuiet_nil hKQ):p:=h
theorem marked_c (w:World) (v:Value) (s:List DMark) (e:DEntry) (h:Ints 3 w v (flMark s)) (hs:seenOk s=true) :
  Calls Tryz.prog 379 #[v,.agg #[.int .i64 e.Index,.int .i64 e.Time,.int .i64 e.Client,.int .i64 e.Seq,.int .i64 e.Op.Kind,.int .i64 e.Op.A,.int .i64 e.Op.B,.int .i64 e.Op.C,.int .i64 e.Op.D]] w (Ret w fun r w'=>∃ u,r=.tuple #[u,.bool (seenStep s e).isSome]∧OwnI w.heap.size 290 3 w' u (flMark ((seenStep s e).getD s))):=by
 have HH:=h
 have hlen:=(seenOk_iff.1 hs).len
 obtain⟨a,cap,rfl,hcap,hm,ha⟩:=h.recs (f:=DMark.ints) (fun _=>rfl) dC
 have HA:=Lib.hid ha;have HS:=Lib.hid hs;have HLEN:=Lib.hid hlen
 clear ha hs
 unfold maxLen at hm
 obtain⟨i0,hi,hz0,hz1,hz2⟩:=info_parts infoMk
 obtain⟨W0,hW0⟩:∃ W0,W0=w.alloc (.cells #[.int .i64 e.Index,.int .i64 e.Time,.int .i64 e.Client,.int .i64 e.Seq,.int .i64 e.Op.Kind,.int .i64 e.Op.A,.int .i64 e.Op.B,.int .i64 e.Op.C,.int .i64 e.Op.D] 281):=⟨_,rfl⟩
 have hE0:Ext w W0:=by rw [hW0];exact (Ext.refl _).alloc _
 have K0:Blk W0 w.heap.size 281 #[.int .i64 e.Index,.int .i64 e.Time,.int .i64 e.Client,.int .i64 e.Seq,.int .i64 e.Op.Kind,.int .i64 e.Op.A,.int .i64 e.Op.B,.int .i64 e.Op.C,.int .i64 e.Op.D]:=by rw [hW0];exact Blk.new _ _ _
 go_enter Tryz.func379,Tryz.ntmps379
 go_wp2_with fail
 rw [← hW0]
 clear hW0
 refine (sSeenOk_c _ _ s (HH.ext hE0)).mono ?_
 rintro e1 w1 ⟨rfl,hx1⟩
 rw [HS.out]
 have hE1:=hE0.trans hx1
 have K1:=K0.ext hx1
 have x0:w1.cell? ⟨w.heap.size,0,none⟩=some (.int .i64 e.Index):=K1.cell 0
 have x1:w1.cell? ⟨w.heap.size,1,none⟩=some (.int .i64 e.Time):=K1.cell 1
 have x2:w1.cell? ⟨w.heap.size,2,none⟩=some (.int .i64 e.Client):=K1.cell 2
 have x3:w1.cell? ⟨w.heap.size,3,none⟩=some (.int .i64 e.Seq):=K1.cell 3
 have x4:w1.cell? ⟨w.heap.size,4,none⟩=some (.int .i64 e.Op.Kind):=K1.cell 4
 have x5:w1.cell? ⟨w.heap.size,5,none⟩=some (.int .i64 e.Op.A):=K1.cell 5
 have x6:w1.cell? ⟨w.heap.size,6,none⟩=some (.int .i64 e.Op.B):=K1.cell 6
 have x7:w1.cell? ⟨w.heap.size,7,none⟩=some (.int .i64 e.Op.C):=K1.cell 7
 have x8:w1.cell? ⟨w.heap.size,8,none⟩=some (.int .i64 e.Op.D):=K1.cell 8
 clear K0
 cases hp:entryOk e
 ·
  have hn:seenStep s e=none:=by simp [seenStep,hp]
  have HN:=Lib.hid hn
  clear hn
  go_upto_region 3 with (fail)
  refine rx0 rqB510 fun w2 hx2=>?_
  go_wp2_with fail
  refine (l9Copy_c _ _ s (h.ext (hE1.trans hx2)) oM).mono ?_
  rintro e9 w3 ⟨t9,rfl,hx3,g3⟩
  obtain⟨ta,tn,tc,rfl⟩:=g3.ints.shape
  go_wp2_with fail
  go_ret2
  exact⟨_,rfl,by exact extT,_,by rw [HN.out];rfl,by rw [HN.out];exact g3.mono (by have h1:=hE1.size;have h2:=hx2.size;omega)⟩
 obtain⟨p1,p2,p5,p6,q1,q2,q3,q4,p7⟩:=entryOk_all hp
 have p3:inb e.Client 2 5=true:=inb_of q1 q2
 have p4:inb e.Seq 1 2000=true:=inb_of q3 q4
 by_cases hq:(markOf s e.Client).Seq<e.Seq
 rotate_left
 ·
  have hn:seenStep s e=none:=by simp [seenStep,hq]
  have HN:=Lib.hid hn
  have hf:decide ((markOf s e.Client).Seq<e.Seq)=false:=by simpa using hq
  clear hn hq
  go_upto_region 3 with (fail)
  refine rx0 rqB511 fun w2 hx2=>?_
  go_wp2_with fail
  refine (l9Copy_c _ _ s (h.ext (hE1.trans hx2)) oM).mono ?_
  rintro e9 w3 ⟨t9,rfl,hx3,g3⟩
  obtain⟨ta,tn,tc,rfl⟩:=g3.ints.shape
  go_wp2_with fail
  go_ret2
  exact⟨_,rfl,by exact extT,_,by rw [HN.out];rfl,by rw [HN.out];exact g3.mono (by have h1:=hE1.size;have h2:=hx2.size;omega)⟩
 have hf:decide ((markOf s e.Client).Seq<e.Seq)=true:=by simpa using hq
 by_cases hl:e.Index≤lastSeen s
 ·
  have hn:seenStep s e=none:=by simp [seenStep];omega
  have HN:=Lib.hid hn
  have hl1:decide (e.Index≤lastSeen s)=true:=by simpa using hl
  clear hn hq hl
  go_upto_region 3 with (fail)
  refine rx0 rqB511 fun w2 hx2=>?_
  go_wp2_with fail
  refine (l9Copy_c _ _ s (h.ext (hE1.trans hx2)) oM).mono ?_
  rintro e9 w3 ⟨t9,rfl,hx3,g3⟩
  obtain⟨ta,tn,tc,rfl⟩:=g3.ints.shape
  go_wp2_with fail
  go_ret2
  exact⟨_,rfl,by exact extT,_,by rw [HN.out];rfl,by rw [HN.out];exact g3.mono (by have h1:=hE1.size;have h2:=hx2.size;omega)⟩
 have hn:seenStep s e=some (markPut s (markE e)):=by simp [seenStep,hp];omega
 have HN:=Lib.hid hn
 have hl1:decide (e.Index≤lastSeen s)=false:=by simpa using hl
 clear hn hq hl
 go_upto_region 3 with (fail)
 refine rx0 rqB511 fun w2 hx2=>?_
 clear hf hl1
 have hE2:=hE1.trans hx2
 have K2:=K1.ext hx2
 obtain⟨C2,F2,L2⟩:=K2.cfl
 go_upto_region 6 with (fail)
 obtain⟨W5,hW5⟩:∃ W5,W5=w2.alloc (.cells #[.int .i64 e.Client,.int .i64 e.Seq,.int .i64 e.Index] 290):=⟨_,rfl⟩
 have hx5:Ext w2 W5:=by rw [hW5];exact (Ext.refl _).alloc _
 have KX:Blk W5 w2.heap.size 290 #[.int .i64 e.Client,.int .i64 e.Seq,.int .i64 e.Index]:=by rw [hW5];exact Blk.new _ _ _
 rw [← hW5]
 clear hW5 C2 F2 L2 x0 x1 x2 x3 x4 x5 x6 x7 x8 K1
 have K5:=K2.ext hx5
 have hE5:=hE2.trans hx5
 have LX:=KX.lt
 go_wp2_with fail
 go_loopw [7,8,9] (fun out dn ii wr=>∃ (k:Nat) (b:Bool),k≤s.length∧ii=.int .i64 k∧dn=.bool b∧Ext W5 wr∧OwnI W5.heap.size 290 3 wr out (flMark (if b then markPut (s.take k) (markE e) else s.take k))∧Hid (b=false→∀ m,m ∈ s.take k→m.Client<e.Client)∧Hid (b=true→∃ m,m ∈ s.take k∧e.Client≤m.Client)) (fun _ _ ii _=>s.length - (intOf ii).toNat)
 case atStart=>exact⟨0,false,Nat.zero_le _,rfl,rfl,(Ext.refl _).alloc _,OwnI.lit0m W5 _ _,Lib.hid (fun _ m hm=>by simp at hm),Lib.hid (fun h=>by cases h)⟩
 case round =>
  obtain⟨k,b,hk,rfl,rfl,he,hown,HF,HT⟩:=hrel
  have hzr:=he.size
  obtain⟨a1,n1,c1,rfl,-,-,-⟩:=hown.open_
  have CE:=(K5.ext he).cell;have CX:=(KX.ext he).cell
  have LE:=(K5.ext he).lt;have LX2:=(KX.ext he).lt
  have hlp:=putM_len (s.take k) (markE e)
  have hlt2:(s.take k).length≤k:=by simp;omega
  by_cases hlt:k<s.length
  ·
   obtain⟨d,b1,o1,hd,rfl,hb1,c⟩:=HA.out k hlt
   have d0:=(hE5.trans he).cell (c 0 _ dC rfl)
   have d1:=(hE5.trans he).cell (c 1 _ dC rfl)
   have d2:=(hE5.trans he).cell (c 2 _ dC rfl)
   simp only [Nat.add_zero] at d0
   have HD:=Lib.hid hd
   have hts:s.take (k+1)=s.take k ++ [d]:=by rw [List.take_add_one,hd];rfl
   have HTS:=Lib.hid hts
   clear c hd hts
   cases b
   ·
    rw [if_neg dC] at hown
    by_cases hge:e.Client≤d.Client
    ·
     have hge1:decide (e.Client≤d.Client)=true:=by simpa using hge
     by_cases hne:d.Client=e.Client
     ·
      have hne1:(d.Client != e.Client)=false:=by simpa using hne
      have hne2:decide (d.Client=e.Client)=true:=by simpa using hne
      have HG:=Lib.hid hge;have HNE:=Lib.hid hne
      clear hge hne
      go_wp2_with fail
      go_quiet (fail)
      go_wp2_with (first|(at_builtin;refine wp_append rfl _ _ 73 rfl 290 i0 _ 3 24 Tryz.underlying73 hi hz0 hz1 hz2 rfl dC (W5.heap.size) _ _ rfl (Own.ext hown extT) _ (([e.Client,e.Seq,e.Index]:List Int).map (.int .i64)) rfl (Sl.oneAtM _ #[.int .i64 e.Client,.int .i64 e.Seq,.int .i64 e.Index] _ 3 _ (by first|rfl|simp) rfl) (ints_oneCell _ _) 1000 (by have:=HLEN.out;simp only [List.length_map,List.length_cons,List.length_nil,List.length_append,length_flMark];omega) (by unfold maxLen;omega) oM (by simp;omega) W5 extT oM ?_;rotate_right;intro v1 wa1 hown1 hea1 _;have hza1:=hea1.size))
      have d01:=hea1.cells
      have CE1:=(K5.ext hea1).cell;have CX1:=(KX.ext hea1).cell
      have y0:=(hE5.trans hea1).cell (show w.cell? ⟨b1,o1+k * 3,none⟩=some (.int .i64 d.Client) from by have:=(HA.out k hlt);obtain⟨d',b',o',hd',hb',_,c'⟩:=this;injection hb' with hb';injection hb' with q1 q2 q3;subst q1;subst q2;rw [HD.out] at hd';obtain rfl:=Option.some.inj hd';simpa using c' 0 _ dC rfl)
      clear CE CX d0 d1 d2 d01
      go_wp2_with fail
      go_quiet (fail)
      go_wp2_with fail
      go_roundw
      case rel=>exact⟨k+1,true,by omega,by go_num,rfl,by exact extT,own_cast (OwnI.ext (ownApp hown1) extT) (by
       rw [if_pos rfl,HTS.out,put_skip (HF.out (by trivial)),show markPut [d] (markE e)=[markE e] from by rw [markPut,if_neg (show ¬ (markE e).Client<d.Client from by have:=HNE.out;show ¬ e.Client<d.Client;omega),if_pos (show (markE e).Client=d.Client from HNE.out.symm)],flMark_one];try rfl),Lib.hid (fun h=>by cases h),Lib.hid (fun _=>⟨d,by rw [HTS.out];simp,HG.out⟩)⟩
      case measure=>simp [intOf];omega
     have hne1:(d.Client != e.Client)=true:=by simpa using hne
     have hne2:decide (d.Client=e.Client)=false:=by simpa using hne
     have HG:=Lib.hid hge;have HNE:=Lib.hid hne
     clear hge hne
     go_wp2_with fail
     go_quiet (fail)
     go_wp2_with (first|(at_builtin;refine wp_append rfl _ _ 73 rfl 290 i0 _ 3 24 Tryz.underlying73 hi hz0 hz1 hz2 rfl dC (W5.heap.size) _ _ rfl (Own.ext hown extT) _ (([e.Client,e.Seq,e.Index]:List Int).map (.int .i64)) rfl (Sl.oneAtM _ #[.int .i64 e.Client,.int .i64 e.Seq,.int .i64 e.Index] _ 3 _ (by first|rfl|simp) rfl) (ints_oneCell _ _) 1000 (by have:=HLEN.out;simp only [List.length_map,List.length_cons,List.length_nil,List.length_append,length_flMark];omega) (by unfold maxLen;omega) oM (by simp;omega) W5 extT oM ?_;rotate_right;intro v1 wa1 hown1 hea1 _;have hza1:=hea1.size))
     have CE1:=(K5.ext hea1).cell;have CX1:=(KX.ext hea1).cell
     have hyy:∀ j u,j<3→(DMark.ints d)[j]?=some u→wa1.cell? ⟨b1,o1+k * 3+j,none⟩=some (.int .i64 u):=fun j u hj hu=>by
      obtain⟨d',b',o',hd',hb',_,c'⟩:=HA.out k hlt
      injection hb' with hb';injection hb' with q1 q2 q3;subst q1;subst q2;rw [HD.out] at hd';obtain rfl:=Option.some.inj hd'
      exact (hE5.trans hea1).cell (c' j u hj hu)
     have y0:=hyy 0 _ dC rfl;have y1:=hyy 1 _ dC rfl;have y2:=hyy 2 _ dC rfl
     simp only [Nat.add_zero] at y0
     clear CE CX d0 d1 d2 hyy
     go_wp2_with fail
     go_quiet (fail)
     go_wp2_with (first|(at_builtin;refine wp_append rfl _ _ 73 rfl 290 i0 _ 3 24 Tryz.underlying73 hi hz0 hz1 hz2 rfl dC (W5.heap.size) _ _ rfl (Own.ext hown1 extT) _ (([d.Client,d.Seq,d.Index]:List Int).map (.int .i64)) rfl (Sl.oneAtM _ #[.int .i64 d.Client,.int .i64 d.Seq,.int .i64 d.Index] _ 3 _ (by first|rfl|simp) rfl) (ints_oneCell _ _) 1000 (by have:=HLEN.out;simp only [List.length_map,List.length_cons,List.length_nil,List.length_append,length_flMark];omega) (by unfold maxLen;omega) oM (by simp;omega) W5 extT oM ?_;rotate_right;intro v2 wa2 hown2 hea2 _;have hza2:=hea2.size))
     go_roundw
     case rel=>exact⟨k+1,true,by omega,by go_num,rfl,hea2,own_cast (ownApp2 hown2) (by
      rw [if_pos rfl,HTS.out,put_skip (HF.out (by trivial)),show markPut [d] (markE e)=[markE e,d] from by rw [markPut,if_pos (show (markE e).Client<d.Client from by have:=HNE.out;have:=HG.out;show e.Client<d.Client;omega)],show s.take k ++ [markE e,d]=s.take k ++ [markE e] ++ [d] by simp,flMark_one,flMark_one];try rfl),Lib.hid (fun h=>by cases h),Lib.hid (fun _=>⟨d,by rw [HTS.out];simp,HG.out⟩)⟩
     case measure=>simp [intOf];omega
    have hge1:decide (e.Client≤d.Client)=false:=by simpa using hge
    have hne1:(d.Client != e.Client)=true:=by simp;omega
    have hne2:decide (d.Client=e.Client)=false:=by simp;omega
    have HG:=Lib.hid hge
    clear hge
    go_wp2_with fail
    go_quiet (fail)
    go_wp2_with fail
    go_quiet (fail)
    go_wp2_with (first|(at_builtin;refine wp_append rfl _ _ 73 rfl 290 i0 _ 3 24 Tryz.underlying73 hi hz0 hz1 hz2 rfl dC (W5.heap.size) _ _ rfl (Own.ext hown extT) _ (([d.Client,d.Seq,d.Index]:List Int).map (.int .i64)) rfl (Sl.oneAtM _ #[.int .i64 d.Client,.int .i64 d.Seq,.int .i64 d.Index] _ 3 _ (by first|rfl|simp) rfl) (ints_oneCell _ _) 1000 (by have:=HLEN.out;simp only [List.length_map,List.length_cons,List.length_nil,List.length_append,length_flMark];omega) (by unfold maxLen;omega) oM (by simp;omega) W5 extT oM ?_;rotate_right;intro v2 wa2 hown2 hea2 _;have hza2:=hea2.size))
    go_roundw
    case rel=>exact⟨k+1,false,by omega,by go_num,rfl,hea2,own_cast (ownApp hown2) (by rw [if_neg dC,HTS.out,flMark_one];try rfl),Lib.hid (fun _ m hm=>by
      rw [HTS.out] at hm
      rcases List.mem_append.1 hm with hm|hm
      ·
       exact HF.out (by trivial) m hm
      simp at hm;subst hm;have:=HG.out;omega),Lib.hid (fun h=>by cases h)⟩
    case measure=>simp [intOf];omega
   rw [if_pos rfl] at hown
   have hne:d.Client ≠ e.Client:=by
    obtain⟨m,hm,hme⟩:=HT.out (by trivial)
    obtain⟨i,hi9,him⟩:=List.getElem_of_mem hm
    have hik:i<k:=by simp at hi9;omega
    have hp9:=List.pairwise_iff_getElem.1 (seenOk_iff.1 HS.out).2 i k oM hlt hik
    have e1:s[i]=m:=by rw [← him];simp
    have e2:s[k]=d:=(List.getElem?_eq_some_iff.1 HD.out).2
    rw [e1,e2] at hp9
    omega
   have hne1:(d.Client != e.Client)=true:=by simpa using hne
   have hne2:decide (d.Client=e.Client)=false:=by simpa using hne
   clear hne
   go_wp2_with fail
   go_quiet (fail)
   go_wp2_with fail
   go_quiet (fail)
   go_wp2_with (first|(at_builtin;refine wp_append rfl _ _ 73 rfl 290 i0 _ 3 24 Tryz.underlying73 hi hz0 hz1 hz2 rfl dC (W5.heap.size) _ _ rfl (Own.ext hown extT) _ (([d.Client,d.Seq,d.Index]:List Int).map (.int .i64)) rfl (Sl.oneAtM _ #[.int .i64 d.Client,.int .i64 d.Seq,.int .i64 d.Index] _ 3 _ (by first|rfl|simp) rfl) (ints_oneCell _ _) 1000 (by have:=HLEN.out;simp only [List.length_map,List.length_cons,List.length_nil,List.length_append,length_flMark];omega) (by unfold maxLen;omega) oM (by simp;omega) W5 extT oM ?_;rotate_right;intro v2 wa2 hown2 hea2 _;have hza2:=hea2.size))
   go_roundw
   case rel=>exact⟨k+1,true,by omega,by go_num,rfl,hea2,own_cast (ownApp hown2) (by rw [if_pos rfl,HTS.out,put_done (HT.out (by trivial)),flMark_one];try rfl),Lib.hid (fun h=>by cases h),Lib.hid (fun _=>by
     obtain⟨m,hm,hme⟩:=HT.out (by trivial)
     exact⟨m,by rw [HTS.out];exact List.mem_append_left _ hm,hme⟩)⟩
   case measure=>simp [intOf];omega
  obtain rfl:k=s.length:=by omega
  rw [List.take_length] at hown HF HT
  cases b
  ·
   rw [if_neg dC] at hown
   go_wp2_with (first|(at_builtin;refine wp_append rfl _ _ 73 rfl 290 i0 _ 3 24 Tryz.underlying73 hi hz0 hz1 hz2 rfl dC (W5.heap.size) _ _ rfl (Own.ext hown extT) _ (([e.Client,e.Seq,e.Index]:List Int).map (.int .i64)) rfl (Sl.oneAtM _ #[.int .i64 e.Client,.int .i64 e.Seq,.int .i64 e.Index] _ 3 _ (by first|rfl|simp) rfl) (ints_oneCell _ _) 1000 (by have:=HLEN.out;simp only [List.length_map,List.length_cons,List.length_nil,List.length_append,length_flMark];omega) (by unfold maxLen;omega) oM (by simp;omega) W5 extT oM ?_;rotate_right;intro v1 wa1 hown1 hea1 _;have hza1:=hea1.size))
   obtain⟨ta,tn,tc,rfl⟩:=(OwnI.ints (ownApp hown1)).shape
   go_ret2
   refine⟨_,rfl,hE5.trans hea1,_,by rw [HN.out];rfl,?_⟩
   rw [HN.out]
   show OwnI w.heap.size 290 3 wa1 _ (flMark (markPut s (markE e)))
   refine OwnI.mono (own_cast (ownApp hown1) ?_) (by have:=hE5.size;omega)
   have h9:=put_skip (A:=s) (B:=[]) (x:=markE e) (HF.out (by trivial))
   rw [List.append_nil] at h9
   rw [h9,show markPut [] (markE e)=[markE e] from rfl,flMark_one];rfl
  rw [if_pos rfl] at hown
  go_wp2_with fail
  go_ret2
  refine⟨_,rfl,hE5.trans he,_,by rw [HN.out];rfl,?_⟩
  rw [HN.out]
  exact hown.mono (by have:=hE5.size;omega)
theorem sSeenOver_c (w:World) (v u:Value) (s:List DMark) (l:List DEntry) (h:Ints 3 w v (flMark s)) (h2:Ints 9 w u (flEntry l)) (hs:seenOk s=true) (hl:l.length≤2000) :
  Calls Tryz.prog 307 #[v,u] w (Ret w fun r w'=>∃ x,r=.tuple #[x,.bool (seenOver s l).isSome]∧OwnI w.heap.size 290 3 w' x (flMark ((seenOver s l).getD s))):=by
 have hlen:=(seenOk_iff.1 hs).len
 obtain⟨av,nv,cv,rfl⟩:=h.shape
 obtain⟨a,cap,rfl,hcap,hm,ha⟩:=h2.recs (f:=DEntry.ints) (fun _=>rfl) dC
 have HA:=Lib.hid ha;have HS:=Lib.hid hs
 clear ha hs
 unfold maxLen at hm
 go_enter Tryz.func307,Tryz.ntmps307
 go_wp2_with fail
 refine (sSeenOk_c _ _ s h).mono ?_
 rintro e1 w1 ⟨rfl,hx1⟩
 rw [HS.out]
 go_wp2_with fail
 refine (l9Copy_c _ _ s (h.ext hx1) oM).mono ?_
 rintro e2 w2 ⟨t2,rfl,hx2,g2⟩
 obtain⟨a2,n2,c2,rfl⟩:=g2.ints.shape
 have hE2:=hx1.trans hx2
 go_wp2_with fail
 go_loopw [6,7] (fun out ii wr=>∃ (k:Nat) (t:List DMark),k≤l.length∧ii=.int .i64 k∧Ext w wr∧OwnI w.heap.size 290 3 wr out (flMark t)∧Hid (seenOver s (l.take k)=some t)) (fun _ ii _=>l.length - (intOf ii).toNat)
 case atStart=>exact⟨0,s,Nat.zero_le _,rfl,hE2,g2.mono hx1.size,Lib.hid rfl⟩
 case round =>
  obtain⟨k,t,hk,rfl,he,hout,HT⟩:=hrel
  obtain⟨a3,n3,c3,rfl⟩:=hout.ints.shape
  by_cases hlt:k<l.length
  ·
   obtain⟨d,b1,o1,hd,rfl,hb1,c⟩:=HA.out k hlt
   have d0:=he.cell (c 0 _ dC rfl)
   have d1:=he.cell (c 1 _ dC rfl)
   have d2:=he.cell (c 2 _ dC rfl)
   have d3:=he.cell (c 3 _ dC rfl)
   have d4:=he.cell (c 4 _ dC rfl)
   have d5:=he.cell (c 5 _ dC rfl)
   have d6:=he.cell (c 6 _ dC rfl)
   have d7:=he.cell (c 7 _ dC rfl)
   have d8:=he.cell (c 8 _ dC rfl)
   simp only [Nat.add_zero] at d0
   have HD:=Lib.hid hd
   clear c hd
   go_wp2_with fail
   refine (marked_c _ _ t d hout.ints (seenOk_true (seenOver_ok (seenOk_iff.1 HS.out) HT.out))).mono ?_
   rintro e3 w3 ⟨_,rfl,hx3,r3,rfl,g3⟩
   obtain⟨a4,n4,c4,rfl⟩:=g3.ints.shape
   clear d0 d1 d2 d3 d4 d5 d6 d7 d8
   cases hst:seenStep t d with
   | none =>
    rw [hst] at g3
    have hn:seenOver s l=none:=seenOver_fail HD.out HT.out hst
    have HN:=Lib.hid hn
    clear hn hst
    go_wp2_with fail
    refine (l9Copy_c _ _ s (h.ext (he.trans hx3)) oM).mono ?_
    rintro e4 w4 ⟨t4,rfl,hx4,g4⟩
    obtain⟨a5,n5,c5,rfl⟩:=g4.ints.shape
    go_wp2_with fail
    go_ret2
    exact⟨_,rfl,by exact extT,_,by rw [HN.out];rfl,by rw [HN.out];exact g4.mono (by have h1:=(he.trans hx3).size;omega)⟩
   | some t' =>
    rw [hst] at g3
    have hn:seenOver s (l.take (k+1))=some t':=by rw [seenOver_next HD.out HT.out,hst]
    have HN:=Lib.hid hn
    clear hn hst
    go_wp2_with fail
    go_roundw
    case rel=>exact⟨k+1,t',by omega,by go_num,he.trans hx3,g3.mono he.size,HN⟩
    case measure=>simp [intOf];omega
  obtain rfl:k=l.length:=by omega
  rw [List.take_length] at HT
  go_wp2_with fail
  go_ret2
  exact⟨_,rfl,he,_,by rw [HT.out];rfl,by rw [HT.out];exact hout⟩
end Go.Proofs.YtkpmbocbbgocbaaGreat
namespace Go.G8
open Go.RowKit
open Go.Proofs.YtkpmbocbbgocbaaGreat Go.Maps
def markElem:Value→Option (DataW Unit × List MemPlace)
 | .agg cs=>match cs.toList with
  | [.int .i64 c,.int .i64 s,.int .i64 i]=>some (.agg [.lit (.int .i64 c),.lit (.int .i64 s),.lit (.int .i64 i)],[])
  | _=>none
 | _=>none
def encM (m:DMark):DataW Unit:=.agg [.lit (.int .i64 m.Client),.lit (.int .i64 m.Seq),.lit (.int .i64 m.Index)]
def valM (m:DMark):Value:=.agg #[.int .i64 m.Client,.int .i64 m.Seq,.int .i64 m.Index]
theorem markElem_mk (m:DMark):markElem (valM m)=some (encM m,[]):=rfl
theorem markElem_inv {v:Value} {m:DMark} {ps:List MemPlace} (h:markElem v=some (encM m,ps)):v=valM m:=by
 unfold markElem at h
 split at h
 ·
  rename_i cs
  split at h
  ·
   rename_i c s i hl
   injection h with h;injection h with h _
   unfold encM at h
   injection h with h;injection h with h1 h;injection h with h2 h;injection h with h3 _
   injection h1 with h1;injection h1 with _ h1;injection h2 with h2;injection h2 with _ h2;injection h3 with h3;injection h3 with _ h3
   subst h1;subst h2;subst h3
   have:cs=#[.int .i64 m.Client,.int .i64 m.Seq,.int .i64 m.Index]:=by
    apply Array.toList_inj.1;exact hl
   rw [this];rfl
  cases h
 cases h
def MSet (P:Program) (k:TypeId) (w:World) (b n:Nat) (M:Int→Option DMark):Prop :=
 ∃ D:DataW Unit,w.ownsMap P k markElem b n D∧Go.Maps.IsMap D∧∀ x,(Lit.int .i64 x).wf=true→D.atKey (.int .i64 x) (encM zMark)=encM ((M x).getD zMark)∧Go.Maps.has D (.int .i64 x)=(M x).isSome
section
variable {P:Program} {k e:TypeId} {w w':World} {b n:Nat} {M:Int→Option DMark}
theorem MSet.made (P:Program) (k:TypeId) (w:World):MSet P k (w.alloc (.map #[] 0)) w.heap.size 0 (fun _=>none) :=
 ⟨.map [],World.ownsMap_made _ _ _ _,Go.Maps.isMap_empty,fun x _=>⟨by simp [DataW.atKey],rfl⟩⟩
theorem MSet.lt (h:MSet P k w b n M):b<w.heap.size:=by obtain⟨D,h,_⟩:=h;exact h.lt
theorem MSet.kept {row:Option Nat} (h:MSet P k w b n M) (hg:w.grownBy w' row) (hne:some b ≠ row):MSet P k w' b n M:=by
 obtain⟨D,h,h1,h2⟩:=h
 exact⟨D,h.kept hg hne,h1,h2⟩
theorem MSet.ext (h:MSet P k w b n M) (x:Ext w w'):MSet P k w' b n M:=h.kept x.grown (by simp)
theorem MSet.cast {M':Int→Option DMark} (h:MSet P k w b n M) (e:∀ x,M x=M' x):MSet P k w b n M':=by
 obtain⟨D,h,h1,h2⟩:=h
 exact⟨D,h,h1,fun x hx=>by rw [← e x];exact h2 x hx⟩
theorem MSet.look {t:TypeId} (h:MSet P k w b n M) (hk:P.underlying k=some (.int .i64)) (ht:P.underlying t=some (.map k e)) (hz:(zeroValue e).run P w=.ok (valM zMark) w)
  {x:Int} (hx:(Lit.int .i64 x).wf=true):(Instr.lookup t (.map (some b)) (.int .i64 x) false).run P w=.ok (valM ((M x).getD zMark)) w:=by
 obtain⟨D,h,_,h2⟩:=h
 obtain⟨v,ps,hrun,hv⟩:=h.lookup (Go.Maps.int_keyed hk) ht hz (markElem_mk zMark) (Go.Maps.keyOf_int_mk hk hx)
 rw [(h2 x hx).1] at hv
 rw [hrun,markElem_inv hv]
end
theorem SeenOk.take {l:List DMark} (h:SeenOk l) (k:Nat):SeenOk (l.take k):=⟨fun m hm=>h.1 m (List.mem_of_mem_take hm),h.2.sublist (List.take_sublist k l)⟩
end Go.G8
namespace Go.Proofs.YtkpmbocbbgocbaaGreat
open Go.RowKit Go.G8
theorem sSameSeen_c (w:World) (v u:Value) (l m:List DMark) (h:Ints 3 w v (flMark l)) (k:Ints 3 w u (flMark m)) :
  Calls Tryz.prog 308 #[v,u] w (RetV w (.bool (eqB l m))):=by
 obtain⟨a,c,rfl,hc,hm,ha⟩:=h.recs (f:=DMark.ints) (fun _=>rfl) dC
 obtain⟨b,d,rfl,hd,hn,hb⟩:=k.recs (f:=DMark.ints) (fun _=>rfl) dC
 have HA:=Lib.hid ha;have HB:=Lib.hid hb
 clear ha hb h k
 unfold maxLen at hm hn
 by_cases hl:l.length=m.length
 rotate_left
 ·
  have hD:eqB l m=false:=eqB_false (fun e=>hl (by rw [e]))
  have hb1:((l.length:Int) == (m.length:Int))=false:=by simp;omega
  have hb2:decide ((l.length:Int)=(m.length:Int))=false:=by simp;omega
  have hb3:decide (l.length=m.length)=false:=by simpa using hl
  have HD:=Lib.hid hD
  clear hl hD
  go_enter Tryz.func308,Tryz.ntmps308
  go_wp2
  go_ret
  exact⟨by rw [HD.out];try rfl,by exact extT⟩
 obtain⟨N,hN⟩:∃ N,N=m.length:=⟨_,rfl⟩
 rw [← hN] at hl HB hd ⊢
 rw [hl] at HA hc ⊢
 have HL:=Lib.hid hl;have HN:=Lib.hid hN
 clear hl hN
 go_enter Tryz.func308,Tryz.ntmps308
 go_wp2_with fail
 go_loopw [5] (fun i wr=>∃ k:Nat,k≤N∧i=.int .i64 k∧Ext w wr∧Hid (l.take k=m.take k)) (fun i _=>N - (intOf i).toNat)
 case atStart=>exact⟨0,Nat.zero_le _,rfl,Ext.refl _,Lib.hid (by simp)⟩
 case round =>
  obtain⟨k,hk,rfl,he,ht⟩:=hrel
  by_cases hlt:k<N
  ·
   obtain⟨x,b1,o1,hx,rfl,hb1,c1⟩:=HA.out k hlt
   obtain⟨y,b2,o2,hy,rfl,hb2,c2⟩:=HB.out k hlt
   obtain⟨x0,x1,x2⟩:=x
   obtain⟨y0,y1,y2⟩:=y
   have d0:=he.cell (c1 0 _ dC rfl);have e0:=he.cell (c2 0 _ dC rfl)
   have d1:=he.cell (c1 1 _ dC rfl);have e1:=he.cell (c2 1 _ dC rfl)
   have d2:=he.cell (c1 2 _ dC rfl);have e2:=he.cell (c2 2 _ dC rfl)
   simp only [Nat.add_zero] at d0 e0
   have HX:=Lib.hid hx;have HY:=Lib.hid hy
   clear hx hy c1 c2
   by_cases hne:x0=y0
   rotate_left
   ·
    have b1:(x0 == y0)=false:=by simpa using hne
    have b2:decide (x0=y0)=false:=by simpa using hne
    have hD:eqB l m=false:=eqB_false (fun e=>by
     have h1:=HX.out;have h2:=HY.out
     rw [e,h2] at h1
     injection h1 with h1
     simp at h1
     omega)
    have HD:=Lib.hid hD
    clear hD hne
    go_wp2_with fail
    go_quiet (fail)
    go_wp2_with fail
    go_ret
    exact⟨by rw [HD.out];try rfl,by exact extT⟩
   subst hne
   by_cases hne:x1=y1
   rotate_left
   ·
    have b1:(x1 == y1)=false:=by simpa using hne
    have b2:decide (x1=y1)=false:=by simpa using hne
    have hD:eqB l m=false:=eqB_false (fun e=>by
     have h1:=HX.out;have h2:=HY.out
     rw [e,h2] at h1
     injection h1 with h1
     simp at h1
     omega)
    have HD:=Lib.hid hD
    clear hD hne
    go_wp2_with fail
    go_quiet (fail)
    go_wp2_with fail
    go_ret
    exact⟨by rw [HD.out];try rfl,by exact extT⟩
   subst hne
   by_cases hne:x2=y2
   rotate_left
   ·
    have b1:(x2 == y2)=false:=by simpa using hne
    have b2:decide (x2=y2)=false:=by simpa using hne
    have hD:eqB l m=false:=eqB_false (fun e=>by
     have h1:=HX.out;have h2:=HY.out
     rw [e,h2] at h1
     injection h1 with h1
     simp at h1
     omega)
    have HD:=Lib.hid hD
    clear hD hne
    go_wp2_with fail
    go_quiet (fail)
    go_wp2_with fail
    go_ret
    exact⟨by rw [HD.out];try rfl,by exact extT⟩
   subst hne
   go_wp2_with fail
   go_quiet (fail)
   go_wp2_with fail
   go_roundw
   case rel=>exact⟨k+1,by omega,by go_num,by exact extT,Lib.hid (take_eq_nextL HX.out HY.out ht.out)⟩
   case measure=>simp [intOf];omega
  obtain rfl:k=N:=by omega
  have hD:eqB l m=true:=by
   have h1:=ht.out
   rw [List.take_of_length_le (by rw [HL.out];omega),List.take_of_length_le (by rw [← HN.out];omega)] at h1
   exact eqB_true h1
  have HD:=Lib.hid hD
  clear hD
  go_wp2_with fail
  go_ret
  exact⟨by rw [HD.out];try rfl,by exact extT⟩
theorem l12SameHead_c (w:World) (c0_0:Int) (c0_1:Int) (c0_2:Int) (s0_3:Value) (l0_3:List DMark) (c1_0:Int) (c1_1:Int) (c1_2:Int) (s1_3:Value) (l1_3:List DMark) (h0_3:Ints 3 w s0_3 (flMark l0_3)) (h1_3:Ints 3 w s1_3 (flMark l1_3)) :
  Calls Tryz.prog 311 #[.agg #[.int .i64 c0_0,.int .i64 c0_1,.int .i64 c0_2,s0_3],.agg #[.int .i64 c1_0,.int .i64 c1_1,.int .i64 c1_2,s1_3]] w (RetV w (.bool (eqB (⟨c0_0,c0_1,c0_2,l0_3⟩:DHead) (⟨c1_0,c1_1,c1_2,l1_3⟩:DHead)))):=by
 obtain⟨a3,n3,k3,rfl⟩:=h0_3.shape
 obtain⟨a4,n4,k4,rfl⟩:=h1_3.shape
 go_enter Tryz.func311,Tryz.ntmps311
 by_cases hne:c0_0=c1_0
 rotate_left
 ·
  have b1:(c0_0 == c1_0)=false:=by simpa using hne
  have b2:decide (c0_0=c1_0)=false:=by simpa using hne
  have HD:=Lib.hid (show eqB (⟨c0_0,c0_1,c0_2,l0_3⟩:DHead) (⟨c1_0,c1_1,c1_2,l1_3⟩:DHead)=false from eqB_false (fun e=>by injection e;exact hne (by assumption)))
  clear hne
  go_wp2_with fail
  go_ret
  exact⟨by rw [HD.out];try rfl,by exact extT⟩
 subst hne
 by_cases hne:c0_1=c1_1
 rotate_left
 ·
  have b1:(c0_1 == c1_1)=false:=by simpa using hne
  have b2:decide (c0_1=c1_1)=false:=by simpa using hne
  have HD:=Lib.hid (show eqB (⟨c0_0,c0_1,c0_2,l0_3⟩:DHead) (⟨c0_0,c1_1,c1_2,l1_3⟩:DHead)=false from eqB_false (fun e=>by injection e;exact hne (by assumption)))
  clear hne
  go_wp2_with fail
  go_ret
  exact⟨by rw [HD.out];try rfl,by exact extT⟩
 subst hne
 by_cases hne:c0_2=c1_2
 rotate_left
 ·
  have b1:(c0_2 == c1_2)=false:=by simpa using hne
  have b2:decide (c0_2=c1_2)=false:=by simpa using hne
  have HD:=Lib.hid (show eqB (⟨c0_0,c0_1,c0_2,l0_3⟩:DHead) (⟨c0_0,c0_1,c1_2,l1_3⟩:DHead)=false from eqB_false (fun e=>by injection e;exact hne (by assumption)))
  clear hne
  go_wp2_with fail
  go_ret
  exact⟨by rw [HD.out];try rfl,by exact extT⟩
 subst hne
 have hD:eqB (⟨c0_0,c0_1,c0_2,l0_3⟩:DHead) ⟨c0_0,c0_1,c0_2,l1_3⟩=eqB l0_3 l1_3:=by
  by_cases h:l0_3=l1_3
  ·
   rw [h,eqB_true rfl,eqB_true rfl]
  rw [eqB_false h,eqB_false (fun e=>h (by injection e))]
 have HD:=Lib.hid hD
 clear hD
 go_wp2_with (first|(go_at_call 308;refine (sSameSeen_c _ _ _ l0_3 l1_3 (h0_3.ext extT) (h1_3.ext extT)).mono ?_;rintro e9 w9 ⟨rfl,hx9⟩))
 go_ret
 exact⟨by rw [HD.out];try rfl,by exact extT⟩
theorem sAckOf_c (w:World) (d:DEntry):Calls Tryz.prog 381 #[.agg #[.int .i64 d.Index,.int .i64 d.Time,.int .i64 d.Client,.int .i64 d.Seq,.int .i64 d.Op.Kind,.int .i64 d.Op.A,.int .i64 d.Op.B,.int .i64 d.Op.C,.int .i64 d.Op.D]] w (RetV w (.agg #[.int .i64 (ackE d).Client,.int .i64 (ackE d).Seq,.int .i64 (ackE d).Index,.int .i64 (ackE d).Last])):=by
 obtain⟨W0,hW0⟩:∃ W0,W0=(w.alloc (.cells #[.int .i64 d.Index,.int .i64 d.Time,.int .i64 d.Client,.int .i64 d.Seq,.int .i64 d.Op.Kind,.int .i64 d.Op.A,.int .i64 d.Op.B,.int .i64 d.Op.C,.int .i64 d.Op.D] 281)).alloc (.cells #[.int .i64 0,.int .i64 0,.int .i64 0,.int .i64 0] 284):=⟨_,rfl⟩
 have hE0:Ext w W0:=by rw [hW0];exact ((Ext.refl _).alloc _).alloc _
 have K0:Blk W0 w.heap.size 281 #[.int .i64 d.Index,.int .i64 d.Time,.int .i64 d.Client,.int .i64 d.Seq,.int .i64 d.Op.Kind,.int .i64 d.Op.A,.int .i64 d.Op.B,.int .i64 d.Op.C,.int .i64 d.Op.D]:=by rw [hW0];exact (Blk.new _ _ _).alloc _
 have K1:Blk W0 (w.heap.size+1) 284 #[.int .i64 0,.int .i64 0,.int .i64 0,.int .i64 0]:=by rw [hW0];exact Blk.new2 _ _ _ _
 go_enter Tryz.func381,Tryz.ntmps381
 go_upto_region 1 with (fail)
 rw [← hW0]
 clear hW0
 have C0:=K0.cell;have F0:=K0.frozen;have L0:=K0.lt;have C1:=K1.cell;have F1:=K1.frozen;have L1:=K1.lt
 go_wp2_with fail
 refine (sEntryOk_e _ d.Index d.Time d.Client d.Seq d.Op.Kind d.Op.A d.Op.B d.Op.C d.Op.D).mono ?_
 rintro e9 w1 ⟨rfl,hx1⟩
 have K0:=K0.ext hx1;have K1:=K1.ext hx1
 clear C0 F0 L0 C1 F1 L1
 have C0:=K0.cell;have F0:=K0.frozen;have L0:=K0.lt;have C1:=K1.cell;have F1:=K1.frozen;have L1:=K1.lt
 cases hb:entryOk d
 all_goals
  try rw [show entryOk (⟨d.Index,d.Time,d.Client,d.Seq,⟨d.Op.Kind,d.Op.A,d.Op.B,d.Op.C,d.Op.D⟩⟩:DEntry)=_ from hb]
  go_wp2_with fail
  refine bodyPost_ret (by simp [results,Tryz.results381,go_sem,C0,F0,L0,C1,F1,L1];try rfl) rfl ?_
  exact⟨by rw [ackE,hb];rfl,by exact extT⟩
theorem sBookOk_c (w:World) (c0_0:Int) (c0_1:Int) (s0_2:Value) (l0_2:List DEntry) (h0_2:Ints 9 w s0_2 (flEntry l0_2)) :
  Calls Tryz.prog 306 #[.agg #[.int .i64 c0_0,.int .i64 c0_1,s0_2]] w (RetV w (.bool (bookOk (⟨c0_0,c0_1,l0_2⟩:DBook)))):=by
 obtain⟨a2,cap2,rfl,hcap2,hm2,ha2⟩:=h0_2.recs (f:=DEntry.ints) (fun _=>rfl) dC
 have HA:=Lib.hid ha2
 clear ha2
 unfold maxLen at hm2
 obtain⟨W0,hW0⟩:∃ W0,W0=w.alloc (.cells #[.int .i64 c0_0,.int .i64 c0_1,.slice a2 l0_2.length cap2] 78):=⟨_,rfl⟩
 have hEw:Ext w W0:=by rw [hW0];exact (Ext.refl _).alloc _
 have KX:Blk W0 w.heap.size 78 #[.int .i64 c0_0,.int .i64 c0_1,.slice a2 l0_2.length cap2]:=by rw [hW0];exact Blk.new _ _ _
 have hLX:=KX.lt
 have I0:=KX.cell 0;have I1:=KX.cell 1;have I2:=KX.cell 2
 simp only [List.getElem?_toArray,List.getElem?_cons_zero,List.getElem?_cons_succ] at I0 I1 I2
 go_enter Tryz.func306,Tryz.ntmps306
 go_upto_region 1 with (fail)
 rw [← hW0]
 clear hW0 KX
 cases p1:inb c0_0 0 2000
 ·
  go_wp2_with (first|(go_at_call 303;refine (l1In_c _ _ _ _).mono ?_;rintro e9 w9 ⟨rfl,rfl⟩;rw [p1])|(go_at_call 207;refine (sTimeOk_c _ _).mono ?_;rintro e9 w9 ⟨rfl,rfl⟩;rw [p2])|(go_at_call 377;refine (sEntriesOk_c _ _ l0_2 (h0_2.ext extT)).mono ?_;rintro e9 w1 ⟨rfl,hx1⟩;rw [p5];have J0:=hx1.cell I0;have J1:=hx1.cell I1;have J2:=hx1.cell I2;have hLb:w.heap.size<w1.heap.size:=World.block_lt_of_cell? _ _ J0))
  go_ret
  exact⟨by rw [show bookOk (⟨c0_0,c0_1,l0_2⟩:DBook)=false from by simp [bookOk,p1]];try rfl,by exact extT⟩
 cases p2:timeOk c0_1
 ·
  go_wp2_with (first|(go_at_call 303;refine (l1In_c _ _ _ _).mono ?_;rintro e9 w9 ⟨rfl,rfl⟩;rw [p1])|(go_at_call 207;refine (sTimeOk_c _ _).mono ?_;rintro e9 w9 ⟨rfl,rfl⟩;rw [p2])|(go_at_call 377;refine (sEntriesOk_c _ _ l0_2 (h0_2.ext extT)).mono ?_;rintro e9 w1 ⟨rfl,hx1⟩;rw [p5];have J0:=hx1.cell I0;have J1:=hx1.cell I1;have J2:=hx1.cell I2;have hLb:w.heap.size<w1.heap.size:=World.block_lt_of_cell? _ _ J0))
  go_ret
  exact⟨by rw [show bookOk (⟨c0_0,c0_1,l0_2⟩:DBook)=false from by simp [bookOk,p2]];try rfl,by exact extT⟩
 obtain⟨b3,hb3⟩:∃ b,b=(c0_0 == 0):=⟨_,rfl⟩
 obtain⟨b4,hb4⟩:∃ b,b=(c0_1 != 0):=⟨_,rfl⟩
 by_cases hz:c0_0=0∧c0_1 ≠ 0
 ·
  have hb3:(c0_0 == 0)=true:=by simpa using hz.1
  have hb4:(c0_1 != 0)=true:=by simpa using hz.2
  have HZ:=Lib.hid hz
  clear hz
  go_wp2_with (first|(go_at_call 303;refine (l1In_c _ _ _ _).mono ?_;rintro e9 w9 ⟨rfl,rfl⟩;rw [p1])|(go_at_call 207;refine (sTimeOk_c _ _).mono ?_;rintro e9 w9 ⟨rfl,rfl⟩;rw [p2])|(go_at_call 377;refine (sEntriesOk_c _ _ l0_2 (h0_2.ext extT)).mono ?_;rintro e9 w1 ⟨rfl,hx1⟩;rw [p5];have J0:=hx1.cell I0;have J1:=hx1.cell I1;have J2:=hx1.cell I2;have hLb:w.heap.size<w1.heap.size:=World.block_lt_of_cell? _ _ J0))
  go_ret
  exact⟨by rw [show bookOk (⟨c0_0,c0_1,l0_2⟩:DBook)=false from by simp [bookOk,HZ.out.1,HZ.out.2]];try rfl,by exact extT⟩
 have hbz:b3=true→b4=false:=by intro h;rw [hb3] at h;rw [hb4];simp at h ⊢;exact Classical.byContradiction fun h'=>hz ⟨h,h'⟩
 have HZ:=Lib.hid hz
 have HB3:=Lib.hid hb3.symm;have HB4:=Lib.hid hb4.symm
 clear hz hb3 hb4
 by_cases h20:l0_2.length≤20
 rotate_left
 ·
  have h20b:decide (20<l0_2.length)=true:=by simp;omega
  have q3:=HB3.out;have q4:=HB4.out
  cases b3
  ·
   go_wp2_with (first|(go_at_call 303;refine (l1In_c _ _ _ _).mono ?_;rintro e9 w9 ⟨rfl,rfl⟩;rw [p1])|(go_at_call 207;refine (sTimeOk_c _ _).mono ?_;rintro e9 w9 ⟨rfl,rfl⟩;rw [p2])|(go_at_call 377;refine (sEntriesOk_c _ _ l0_2 (h0_2.ext extT)).mono ?_;rintro e9 w1 ⟨rfl,hx1⟩;rw [p5];have J0:=hx1.cell I0;have J1:=hx1.cell I1;have J2:=hx1.cell I2;have hLb:w.heap.size<w1.heap.size:=World.block_lt_of_cell? _ _ J0))
   go_ret
   exact⟨by rw [show bookOk (⟨c0_0,c0_1,l0_2⟩:DBook)=false from by simp [bookOk,h20]];try rfl,by exact extT⟩
  have q5:=hbz rfl
  rw [q5] at q4
  go_wp2_with (first|(go_at_call 303;refine (l1In_c _ _ _ _).mono ?_;rintro e9 w9 ⟨rfl,rfl⟩;rw [p1])|(go_at_call 207;refine (sTimeOk_c _ _).mono ?_;rintro e9 w9 ⟨rfl,rfl⟩;rw [p2])|(go_at_call 377;refine (sEntriesOk_c _ _ l0_2 (h0_2.ext extT)).mono ?_;rintro e9 w1 ⟨rfl,hx1⟩;rw [p5];have J0:=hx1.cell I0;have J1:=hx1.cell I1;have J2:=hx1.cell I2;have hLb:w.heap.size<w1.heap.size:=World.block_lt_of_cell? _ _ J0))
  go_ret
  exact⟨by rw [show bookOk (⟨c0_0,c0_1,l0_2⟩:DBook)=false from by simp [bookOk,h20]];try rfl,by exact extT⟩
 have h20b:decide (20<l0_2.length)=false:=by simp;omega
 cases p5:entriesOk l0_2
 ·
  have q3:=HB3.out;have q4:=HB4.out
  cases b3
  ·
   go_wp2_with (first|(go_at_call 303;refine (l1In_c _ _ _ _).mono ?_;rintro e9 w9 ⟨rfl,rfl⟩;rw [p1])|(go_at_call 207;refine (sTimeOk_c _ _).mono ?_;rintro e9 w9 ⟨rfl,rfl⟩;rw [p2])|(go_at_call 377;refine (sEntriesOk_c _ _ l0_2 (h0_2.ext extT)).mono ?_;rintro e9 w1 ⟨rfl,hx1⟩;rw [p5];have J0:=hx1.cell I0;have J1:=hx1.cell I1;have J2:=hx1.cell I2;have hLb:w.heap.size<w1.heap.size:=World.block_lt_of_cell? _ _ J0))
   go_ret
   exact⟨by rw [show bookOk (⟨c0_0,c0_1,l0_2⟩:DBook)=false from by simp [bookOk,p5]];try rfl,by exact extT⟩
  have q5:=hbz rfl
  rw [q5] at q4
  go_wp2_with (first|(go_at_call 303;refine (l1In_c _ _ _ _).mono ?_;rintro e9 w9 ⟨rfl,rfl⟩;rw [p1])|(go_at_call 207;refine (sTimeOk_c _ _).mono ?_;rintro e9 w9 ⟨rfl,rfl⟩;rw [p2])|(go_at_call 377;refine (sEntriesOk_c _ _ l0_2 (h0_2.ext extT)).mono ?_;rintro e9 w1 ⟨rfl,hx1⟩;rw [p5];have J0:=hx1.cell I0;have J1:=hx1.cell I1;have J2:=hx1.cell I2;have hLb:w.heap.size<w1.heap.size:=World.block_lt_of_cell? _ _ J0))
  go_ret
  exact⟨by rw [show bookOk (⟨c0_0,c0_1,l0_2⟩:DBook)=false from by simp [bookOk,p5]];try rfl,by exact extT⟩
 have hpos:bookOk (⟨c0_0,c0_1,l0_2⟩:DBook)=firstOk (⟨c0_0,c0_1,l0_2⟩:DBook):=by
  simp only [bookOk];rw [p1,p2,p5,show decide (l0_2.length≤20)=true by simpa using h20]
  rw [show (decide (c0_0=0) && decide (c0_1 ≠ 0))=false by have:=HZ.out;simp;intro h;exact Classical.byContradiction fun h'=>this ⟨h,h'⟩]
  rfl
 have HPOS:=Lib.hid hpos
 clear hpos
 go_cut [34] (fun cx0 wx=>cx0=.bool false∧Ext W0 wx)
 case first =>
  have q3:=HB3.out;have q4:=HB4.out
  cases b3
  ·
   go_wp2_with (first|(go_at_call 303;refine (l1In_c _ _ _ _).mono ?_;rintro e9 w9 ⟨rfl,rfl⟩;rw [p1])|(go_at_call 207;refine (sTimeOk_c _ _).mono ?_;rintro e9 w9 ⟨rfl,rfl⟩;rw [p2])|(go_at_call 377;refine (sEntriesOk_c _ _ l0_2 (h0_2.ext extT)).mono ?_;rintro e9 w1 ⟨rfl,hx1⟩;rw [p5];have J0:=hx1.cell I0;have J1:=hx1.cell I1;have J2:=hx1.cell I2;have hLb:w.heap.size<w1.heap.size:=World.block_lt_of_cell? _ _ J0))
   go_meet
   case rel=>exact⟨by first|rfl|(simp;done)|(simp;omega),by exact extT⟩
  have q5:=hbz rfl
  rw [q5] at q4
  go_wp2_with (first|(go_at_call 303;refine (l1In_c _ _ _ _).mono ?_;rintro e9 w9 ⟨rfl,rfl⟩;rw [p1])|(go_at_call 207;refine (sTimeOk_c _ _).mono ?_;rintro e9 w9 ⟨rfl,rfl⟩;rw [p2])|(go_at_call 377;refine (sEntriesOk_c _ _ l0_2 (h0_2.ext extT)).mono ?_;rintro e9 w1 ⟨rfl,hx1⟩;rw [p5];have J0:=hx1.cell I0;have J1:=hx1.cell I1;have J2:=hx1.cell I2;have hLb:w.heap.size<w1.heap.size:=World.block_lt_of_cell? _ _ J0))
  go_meet
  case rel=>exact⟨by first|rfl|(simp;done)|(simp;omega),by exact extT⟩
 revert wc;intro w0 hcut
 obtain⟨rfl,hx0⟩:=hcut
 have hEw:=hEw.trans hx0
 have I0:=hx0.cell I0;have I1:=hx0.cell I1;have I2:=hx0.cell I2
 have hLb0:w.heap.size<w0.heap.size:=World.block_lt_of_cell? _ _ I0
 go_upto_region 3 with (first|(go_at_call 303;refine (l1In_c _ _ _ _).mono ?_;rintro e9 w9 ⟨rfl,rfl⟩;rw [p1])|(go_at_call 207;refine (sTimeOk_c _ _).mono ?_;rintro e9 w9 ⟨rfl,rfl⟩;rw [p2])|(go_at_call 377;refine (sEntriesOk_c _ _ l0_2 (h0_2.ext extT)).mono ?_;rintro e9 w1 ⟨rfl,hx1⟩;rw [p5];have J0:=hx1.cell I0;have J1:=hx1.cell I1;have J2:=hx1.cell I2;have hLb:w.heap.size<w1.heap.size:=World.block_lt_of_cell? _ _ J0))
 have w1e:w0=w0:=rfl
 obtain⟨wz,hwz⟩:∃ wz,wz=w0:=⟨_,rfl⟩
 rw [← hwz]
 have hEz:Ext W0 wz:=by rw [hwz];exact hx0
 have hEwz:Ext w wz:=by rw [hwz];exact hEw
 have J0:wz.cell? ⟨w.heap.size,0,none⟩=some (.int .i64 c0_0):=by rw [hwz];exact I0
 have J1:wz.cell? ⟨w.heap.size,1,none⟩=some (.int .i64 c0_1):=by rw [hwz];exact I1
 have J2:wz.cell? ⟨w.heap.size,2,none⟩=some (.slice a2 l0_2.length cap2):=by rw [hwz];exact I2
 clear hwz
 by_cases hl0:l0_2.length=0
 ·
  have e1:firstOk (⟨c0_0,c0_1,l0_2⟩:DBook)=true:=by rw [List.eq_nil_of_length_eq_zero hl0];rfl
  have l0b:((l0_2.length:Int) == 0)=true:=by simpa using hl0
  have l0c:decide (l0_2.length=0)=true:=by simpa using hl0
  have HE:=Lib.hid e1
  clear e1 hl0
  go_wp2_with fail
  go_quiet (fail)
  go_wp2_with fail
  go_ret
  exact⟨by rw [HPOS.out,HE.out];try rfl,by exact extT⟩
 obtain⟨d,b1,o1,hd,rfl,hb1,c⟩:=HA.out 0 oM
 have d0:=hEwz.cell (c 0 _ dC rfl)
 have d1:=hEwz.cell (c 1 _ dC rfl)
 simp only [Nat.zero_mul,Nat.add_zero] at d0 d1
 have e1:firstOk (⟨c0_0,c0_1,l0_2⟩:DBook)=(decide (d.Index=c0_0+1) && decide (c0_1≤d.Time)):=by
  cases l0_2 with
  | nil=>simp at hd
  | cons x l=>simp at hd;subst hd;rfl
 have hwr:IntKind.i64.wrap (c0_0+1)=c0_0+1:=by have:=inb_true.1 p1;rw [IntKind.wrap_i64] <;> omega
 have hpl:0<l0_2.length:=by omega
 have l0b:((l0_2.length:Int) == 0)=false:=by simpa using hl0
 have l0c:decide (l0_2.length=0)=false:=by simpa using hl0
 have HE:=Lib.hid e1
 clear e1 hl0 c hd
 by_cases hi:d.Index=c0_0+1
 ·
  have hi1:(d.Index == c0_0+1)=true:=by simpa using hi
  have hi2:decide (d.Index=c0_0+1)=true:=by simpa using hi
  have HI:=Lib.hid hi2
  clear hi
  go_wp2_with fail
  go_quiet (fail)
  go_wp2_with fail
  go_ret
  exact⟨by rw [HPOS.out,HE.out,HI.out];first|rfl|(simp;done),by exact extT⟩
 have hi1:(d.Index == c0_0+1)=false:=by simpa using hi
 have hi2:decide (d.Index=c0_0+1)=false:=by simpa using hi
 have HI:=Lib.hid hi2
 clear hi
 go_wp2_with fail
 go_quiet (fail)
 go_wp2_with fail
 go_ret
 exact⟨by rw [HPOS.out,HE.out,HI.out];first|rfl|(simp;done),by exact extT⟩
end Go.Proofs.YtkpmbocbbgocbaaGreat
