/- S2 S3 HelpB. -/
import Derived.Test.YtkpmbocbbgocbaaGreatPGb
set_option linter.unusedSimpArgs false
set_option linter.unusedVariables false
set_option maxHeartbeats 8000000
set_option maxRecDepth 100000
namespace Go.Proofs.YtkpmbocbbgocbaaGreat
open Go.RowKit Go.G8
theorem aU5{p:Prop}(h:p:=by intro KQ hKQ;(repeat (first|go_big_quiet_skip|(go_big_quiet_want;first|(refine Hn _ _ _ ?_ rfl rfl (fun wq hq=>?_) ?_;rotate_left;(focus((try have y0:=hq.cell J0);(try have y1:=hq.cell J1);(try have y2:=hq.cell d0);(try have y3:=hq.cell d1);go_simp;first|done|rfl));(try simp only[Ak,Act.put]);go_big_quiet_on)|(go_big_quiet_op;first|go_big_quiet_on|(refine⟨_,fun _ _=>rfl,?_⟩;go_big_quiet_on)|(apply Exists.intro;refine⟨fun wq hq=>?_,?_⟩;(focus(first|(go_at_call 387;exact Tu hq (cC5 _ _ _ _ _ _ (AW.ext (hEr.trans hq)) (CH.ext (hEr.trans hq))))|(go_at_call 325;exact Tu hq (VW _ _ _ (hin.ext hq)))));go_big_quiet_on)))));exact wpQuiet_nil hKQ):p:=h
theorem QT(w:World)(AU:Value)(Bl:List (List Int))(DL:Value)(Cq:List AG)(AW:Ll 0 w AU (Bd Bl))(CH:Ll 1 w DL (Dq Cq)):Calls Tryz.prog 317 #[.agg #[AU,DL]] w (Fz w (.bool (GN (⟨Bl,Cq⟩:EI)))):=by
 obtain⟨a0,cap0,rfl,hc0,hm0,ha0⟩:=Ll.rows AW
 obtain⟨a1,cap1,rfl,hc1,hm1,ha1⟩:=Ll.writes CH
 have HA:=Lib.hid ha0;have HB:=Lib.hid ha1
 clear ha0 ha1
 unfold maxLen at hm0 hm1
 by_cases hz:1<=Bl.length/\Bl.length<=40/\Cq.length<=60
 .
  have HZ:=Lib.hid hz
  obtain⟨hz1,hz2,hz3⟩:=hz
  obtain⟨W0,hW0⟩:∃W0,W0=w.alloc (.cells #[.slice a0 Bl.length cap0,.slice a1 Cq.length cap1] 70):=⟨_,rfl⟩
  have hEw:Ext w W0:=by rw[hW0];exact(Ext.refl _).alloc _
  have I0:W0.cell? ⟨w.heap.size,0,none⟩=some (.slice a0 Bl.length cap0):=by rw[hW0];simp
  have I1:W0.cell? ⟨w.heap.size,1,none⟩=some (.slice a1 Cq.length cap1):=by rw[hW0];simp
  go_enter Tryz.func317,Tryz.ntmps317
  go_wp2
  rw[<-hW0]
  clear hW0
  go_loopw [3] (fun i wr=>∃k:Nat,k<=Bl.length/\i=.int .i64 k/\Ext W0 wr/\Hid ((Bl.take k).all MR=true)) (fun i _=>Bl.length - (intOf i).toNat)
  case atStart=>exact⟨0,Nat.zero_le _,rfl,Ext.refl _,Lib.hid (by simp)⟩
  case round =>
   obtain⟨k,hk,rfl,he,hp⟩:=hrel
   have hEr:=hEw.trans he
   have J0:=he.cell I0;have J1:=he.cell I1
   by_cases hlt:k<Bl.length
   .
    obtain⟨r,b1,o1,sa,sn,sc,hr,rfl,_,cc,hin0⟩:=HA.out k hlt
    have d0:=hEr.cell cc
    have hin:=hin0.ext hEr
    have HR:=Lib.hid hr
    clear hr cc hin0
    cases hb:MR r
    .
     go_wp2_with (first|(go_at_call 325;refine(VW _ _ _ (hin.ext xT)).mono ?_;rintro e w1 ⟨rfl,hx1⟩))
     go_ret
     exact⟨by rw[GN,MU (p:=MR) (l:=Bl) HR.out hb];simp,xT⟩
    go_wp2_with (first|(go_at_call 325;refine(VW _ _ _ (hin.ext xT)).mono ?_;rintro e w1 ⟨rfl,hx1⟩))
    go_roundw
    case rel=>exact⟨k+1,by omega,by go_num,he.trans hx1,Lib.hid (JH HR.out hp.out hb)⟩
    case measure=>simp[intOf];omega
   obtain rfl:k=Bl.length:=by omega
   have hp':=hp.out
   rw[List.take_length] at hp'
   have HP:=Lib.hid hp'
   clear hp hp'
   go_wp2
   go_loopw [4] (fun i wr=>∃k:Nat,k<=Cq.length/\i=.int .i64 k/\Ext W0 wr/\Hid ((Cq.take k).all (KI Bl.length)=true)) (fun i _=>Cq.length - (intOf i).toNat)
   case atStart=>exact⟨0,Nat.zero_le _,rfl,he,Lib.hid (by simp)⟩
   case round =>
    clear he hEr J0 J1
    obtain⟨k,hk,rfl,he,hp⟩:=hrel
    have hEr:=hEw.trans he
    have J0:=he.cell I0;have J1:=he.cell I1
    by_cases hlt:k<Cq.length
    .
     obtain⟨d,b1,o1,sa,sn,sc,hd,rfl,_,cc0,cc1,hin0⟩:=HB.out k hlt
     have d0:=hEr.cell cc0;have d1:=hEr.cell cc1
     have hin:=hin0.ext hEr
     have hbl:w.heap.size<wr.heap.size:=World.block_lt_of_cell? _ _ J0
     have hbm:b1<wr.heap.size:=World.block_lt_of_cell? _ _ d0
     have HD:=Lib.hid hd
     clear hd cc0 cc1 hin0
     cases ha:inb d.At 0 (Bl.length - 1)
     .
      go_wp2_with fail
      refine rx0 aU5 fun w1 hx1=>?_
      go_wp2
      go_ret
      exact⟨by rw[GN,MU (p:=KI Bl.length) (l:=Cq) HD.out (by simp[KI,ha])];simp,xT⟩
     cases hb:MR d.Row
     .
      go_wp2_with fail
      refine rx0 aU5 fun w1 hx1=>?_
      go_wp2
      go_ret
      exact⟨by rw[GN,MU (p:=KI Bl.length) (l:=Cq) HD.out (by simp[KI,hb])];simp,xT⟩
     go_wp2_with fail
     refine rx0 aU5 fun w1 hx1=>?_
     go_wp2
     go_roundw
     case rel=>exact⟨k+1,by omega,by go_num,xT,Lib.hid (JH HD.out hp.out (by simp[KI,ha,hb]))⟩
     case measure=>simp[intOf];omega
    obtain rfl:k=Cq.length:=by omega
    have hp':=hp.out
    rw[List.take_length] at hp'
    go_wp2
    go_ret
    have hz':=HZ.out
    exact⟨by rw[GN,HP.out,hp'];simp[hz'],xT⟩
 go_enter Tryz.func317,Tryz.ntmps317
 go_wp2
 all_goals
  go_ret
  exact⟨by rw[GN];simp;omega,xT⟩
theorem VY(w:World)(AU:Value)(Bl:List (List Int))(DL:Value)(Cq:List AG)(AW:Ll 0 w AU (Bd Bl))(CH:Ll 1 w DL (Dq Cq)):Calls Tryz.prog 186 #[.agg #[AU,DL]] w (Fz w (.bool (GN (⟨Bl,Cq⟩:EI)))):=by
 obtain⟨a0,cap0,rfl,hc0,hm0,ha0⟩:=Ll.rows AW
 obtain⟨a1,cap1,rfl,hc1,hm1,ha1⟩:=Ll.writes CH
 have HA:=Lib.hid ha0;have HB:=Lib.hid ha1
 clear ha0 ha1
 unfold maxLen at hm0 hm1
 by_cases hz:1<=Bl.length/\Bl.length<=40/\Cq.length<=60
 .
  have HZ:=Lib.hid hz
  obtain⟨hz1,hz2,hz3⟩:=hz
  obtain⟨W0,hW0⟩:∃W0,W0=w.alloc (.cells #[.slice a0 Bl.length cap0,.slice a1 Cq.length cap1] 70):=⟨_,rfl⟩
  have hEw:Ext w W0:=by rw[hW0];exact(Ext.refl _).alloc _
  have I0:W0.cell? ⟨w.heap.size,0,none⟩=some (.slice a0 Bl.length cap0):=by rw[hW0];simp
  have I1:W0.cell? ⟨w.heap.size,1,none⟩=some (.slice a1 Cq.length cap1):=by rw[hW0];simp
  go_enter Tryz.func186,Tryz.ntmps186
  go_wp2
  rw[<-hW0]
  clear hW0
  go_loopw [26] (fun i wr=>∃k:Nat,k<=Bl.length/\i=.int .i64 k/\Ext W0 wr/\Hid ((Bl.take k).all MR=true)) (fun i _=>Bl.length - (intOf i).toNat)
  case atStart=>exact⟨0,Nat.zero_le _,rfl,Ext.refl _,Lib.hid (by simp)⟩
  case round =>
   obtain⟨k,hk,rfl,he,hp⟩:=hrel
   have hEr:=hEw.trans he
   have J0:=he.cell I0;have J1:=he.cell I1
   by_cases hlt:k<Bl.length
   .
    obtain⟨r,b1,o1,sa,sn,sc,hr,rfl,_,cc,hin0⟩:=HA.out k hlt
    have d0:=hEr.cell cc
    have hin:=hin0.ext hEr
    have HR:=Lib.hid hr
    clear hr cc hin0
    cases hb:MR r
    .
     go_wp2_with (first|(go_at_call 276;refine(UH _ _ _ (hin.ext xT)).mono ?_;rintro e w1 ⟨rfl,hx1⟩))
     go_ret
     exact⟨by rw[GN,MU (p:=MR) (l:=Bl) HR.out hb];simp,xT⟩
    go_wp2_with (first|(go_at_call 276;refine(UH _ _ _ (hin.ext xT)).mono ?_;rintro e w1 ⟨rfl,hx1⟩))
    go_roundw
    case rel=>exact⟨k+1,by omega,by go_num,he.trans hx1,Lib.hid (JH HR.out hp.out hb)⟩
    case measure=>simp[intOf];omega
   obtain rfl:k=Bl.length:=by omega
   have hp':=hp.out
   rw[List.take_length] at hp'
   have HP:=Lib.hid hp'
   clear hp hp'
   go_wp2
   go_loopw [37] (fun i wr=>∃k:Nat,k<=Cq.length/\i=.int .i64 k/\Ext W0 wr/\Hid ((Cq.take k).all (KI Bl.length)=true)) (fun i _=>Cq.length - (intOf i).toNat)
   case atStart=>exact⟨0,Nat.zero_le _,rfl,he,Lib.hid (by simp)⟩
   case round =>
    clear he hEr J0 J1
    obtain⟨k,hk,rfl,he,hp⟩:=hrel
    have hEr:=hEw.trans he
    have J0:=he.cell I0;have J1:=he.cell I1
    by_cases hlt:k<Cq.length
    .
     obtain⟨d,b1,o1,sa,sn,sc,hd,rfl,_,cc0,cc1,hin0⟩:=HB.out k hlt
     have d0:=hEr.cell cc0;have d1:=hEr.cell cc1
     have hin:=hin0.ext hEr
     have hbl:w.heap.size<wr.heap.size:=World.block_lt_of_cell? _ _ J0
     have hbm:b1<wr.heap.size:=World.block_lt_of_cell? _ _ d0
     have HD:=Lib.hid hd
     clear hd cc0 cc1 hin0
     cases ha:inb d.At 0 (Bl.length - 1)
     .
      go_wp2_with (first|(go_at_call 292;refine(VH _ _ _ _ _ _ (AW.ext (hEr.trans xT)) (CH.ext (hEr.trans xT))).mono ?_;rintro e w2 ⟨rfl,hx2⟩;obtain⟨hcx,_⟩:=hx2.cells;(try simp only[World.size_alloc] at hcx))|(go_at_call 276;refine(UH _ _ _ (hin.ext xT)).mono ?_;rintro e w1 ⟨rfl,hx1⟩))
      go_ret
      exact⟨by rw[GN,MU (p:=KI Bl.length) (l:=Cq) HD.out (by simp[KI,ha])];simp,xT⟩
     cases hb:MR d.Row
     .
      go_wp2_with (first|(go_at_call 292;refine(VH _ _ _ _ _ _ (AW.ext (hEr.trans xT)) (CH.ext (hEr.trans xT))).mono ?_;rintro e w2 ⟨rfl,hx2⟩;obtain⟨hcx,_⟩:=hx2.cells;(try simp only[World.size_alloc] at hcx))|(go_at_call 276;refine(UH _ _ _ (hin.ext xT)).mono ?_;rintro e w1 ⟨rfl,hx1⟩))
      go_ret
      exact⟨by rw[GN,MU (p:=KI Bl.length) (l:=Cq) HD.out (by simp[KI,hb])];simp,xT⟩
     go_wp2_with (first|(go_at_call 292;refine(VH _ _ _ _ _ _ (AW.ext (hEr.trans xT)) (CH.ext (hEr.trans xT))).mono ?_;rintro e w2 ⟨rfl,hx2⟩;obtain⟨hcx,_⟩:=hx2.cells;(try simp only[World.size_alloc] at hcx))|(go_at_call 276;refine(UH _ _ _ (hin.ext xT)).mono ?_;rintro e w1 ⟨rfl,hx1⟩))
     go_roundw
     case rel=>exact⟨k+1,by omega,by go_num,xT,Lib.hid (JH HD.out hp.out (by simp[KI,ha,hb]))⟩
     case measure=>simp[intOf];omega
    obtain rfl:k=Cq.length:=by omega
    have hp':=hp.out
    rw[List.take_length] at hp'
    go_wp2
    go_ret
    have hz':=HZ.out
    exact⟨by rw[GN,HP.out,hp'];simp[hz'],xT⟩
 go_enter Tryz.func186,Tryz.ntmps186
 go_wp2
 all_goals
  go_ret
  exact⟨by rw[GN];simp;omega,xT⟩
theorem aU6(w:World)(AU:Value)(Bl:List (List Int))(DL:Value)(Cq:List AG)(AW:Ll 0 w AU (Bd Bl))(CH:Ll 1 w DL (Dq Cq)):Calls Tryz.prog 315 #[.agg #[AU,DL]] w (Fz w (.bool (MS (⟨Bl,Cq⟩:EI)))):=by
 obtain⟨a0,cap0,rfl,hc0,hm0,-⟩:=Ll.rows AW
 obtain⟨a1,n1,c1,rfl⟩:=CH.shape
 unfold maxLen at hm0
 cases hd:GN (⟨Bl,Cq⟩:EI)
 all_goals
  go_enter Tryz.func315,Tryz.ntmps315
  go_wp2_with (first|(go_at_call 317;refine(QT _ _ _ _ _ (AW.ext xT) (CH.ext xT)).mono ?_;rintro e w1 ⟨rfl,hx1⟩;rw[hd];obtain⟨hcx,_⟩:=hx1.cells;(try simp only[World.size_alloc] at hcx)))
  all_goals
   go_ret
   refine⟨by first|(simp[MS,hd];done)|(simp[MS,hd,bq];omega)|(simp_all [MS,bq];done)|(simp_all [MS,bq];omega),?_⟩
   exact xT
theorem bF3(w:World)(AU:Value)(Bl:List (List Int))(DL:Value)(Cq:List AG)(AW:Ll 0 w AU (Bd Bl))(CH:Ll 1 w DL (Dq Cq)):Calls Tryz.prog 291 #[.agg #[AU,DL]] w (Fz w (.bool (MS (⟨Bl,Cq⟩:EI)))):=by
 obtain⟨a0,cap0,rfl,hc0,hm0,-⟩:=Ll.rows AW
 obtain⟨a1,n1,c1,rfl⟩:=CH.shape
 unfold maxLen at hm0
 cases hd:GN (⟨Bl,Cq⟩:EI)
 all_goals
  go_enter Tryz.func291,Tryz.ntmps291
  go_wp2_with (first|(go_at_call 186;refine(VY _ _ _ _ _ (AW.ext xT) (CH.ext xT)).mono ?_;rintro e w1 ⟨rfl,hx1⟩;rw[hd];obtain⟨hcx,_⟩:=hx1.cells;(try simp only[World.size_alloc] at hcx)))
  all_goals
   go_ret
   refine⟨by first|(simp[MS,hd];done)|(simp[MS,hd,bq];omega)|(simp_all [MS,bq];done)|(simp_all [MS,bq];omega),?_⟩
   exact xT
theorem bP5(w:World)(c0:Int)(c1:Int)(c2:Int)(c3:Int)(c4:Int)(s5:Value)(d5:List Int)(L5:Nat)(hL5:d5.length=L5*2)(h5:Aw 2 w s5 d5)(hs5:L5<=1048576):Calls Tryz.prog 233 #[.agg #[.int .i64 c0,.int .i64 c1,.int .i64 c2,.int .i64 c3,.int .i64 c4,s5]] w (Ret w fun v w'=>∃t5:Value,v=.agg #[.int .i64 c0,.int .i64 c1,.int .i64 c2,.int .i64 c3,.int .i64 c4,t5]/\Ba w.heap.size 286 2 w' t5 d5):=by
 go_enter Tryz.func233,Tryz.ntmps233
 go_wp2_with (first|(go_at_call 336;refine(bN0 _ s5 d5 L5 hL5 (h5.ext xT) hs5).mono ?_;rintro e w1 ⟨t5,rfl,hx1,g5⟩;obtain⟨ta5,tn5,tc5,rfl⟩:=g5.shape;have hz1:=hx1.size;obtain⟨hc1,hf1⟩:=hx1.cells;(repeat (first|simp only[World.size_alloc] at hz1 hc1 hf1 g5|simp only[World.size_setCell] at hz1 hc1 hf1 g5));have JJ:w.heap.size<w1.heap.size:=oM;have PP:w.heap.size+1<w1.heap.size:=oM;have aC9:w.heap.size+1+1<w1.heap.size:=oM))
 refine bodyPost_ret (v:=.agg #[.int .i64 c0,.int .i64 c1,.int .i64 c2,.int .i64 c3,.int .i64 c4,.slice ta5 tn5 tc5]) ?_ rfl ?_
 .
  simp[results,Tryz.results233,go_sem, *]
 refine⟨_,rfl,?_,_,rfl,(g5.keep ?_).mono ?_⟩
 all_goals clear hc1 hf1
 .
  exact xT
 .
  repeat' (first|(with_reducible exact Chg.refl _ _)|(with_reducible refine Chg.drewN ?_ _)|(with_reducible refine Chg.drew ?_)|(with_reducible refine Chg.alloc ?_ _)|(with_reducible refine Chg.setLow ?_ ?_ _)|(with_reducible refine Chg.ext ?_ (by assumption))|omega)
 omega
theorem bP6(w:World)(c0:Int)(c1:Int)(c2:Int)(c3:Int)(c4:Int)(s5:Value)(d5:List Int)(L5:Nat)(hL5:d5.length=L5*2)(left:Int)(h5:Aw 2 w s5 d5)(h0:0<=left)(h1:left<=1048576):Calls Tryz.prog 205 #[.agg #[.int .i64 c0,.int .i64 c1,.int .i64 c2,.int .i64 c3,.int .i64 c4,s5],.int .i64 left] w (Ret w fun v' _=>SzR left (L5) v'):=by
 go_enter Tryz.func205,Tryz.ntmps205
 go_wp2_with (first|(go_at_call 302;refine(bN1 _ s5 d5 L5 hL5 _ (h5.ext xT) oM oM).mono ?_;rintro e w1 ⟨v1,rfl,hx1,hv⟩;have hz1:=hx1.size;obtain⟨hc1,hf1⟩:=hx1.cells;(repeat (first|simp only[World.size_alloc] at hz1 hc1 hf1|simp only[World.size_setCell] at hz1 hc1 hf1));have JJ:w.heap.size<w1.heap.size:=oM;rcases hv with⟨rfl,q1⟩|⟨rfl,q1⟩))
 all_goals
  go_ret
  refine⟨_,rfl,?_,?_⟩
  .
   exact xT
  first|exact .inl ⟨rfl,by omega⟩|(refine .inr ⟨congrArg (Value.int .i64) ?_,?_⟩ <;> omega)
theorem bP7(w:World)(c0:Int)(c1:Int)(c2:Int)(c3:Int)(c4:Int)(s5:Value)(t5:Value)(d5:List Int)(h5:Aw 2 w s5 d5)(k5:Aw 2 w t5 d5):Calls Tryz.prog 254 #[.agg #[.int .i64 c0,.int .i64 c1,.int .i64 c2,.int .i64 c3,.int .i64 c4,s5],.agg #[.int .i64 c0,.int .i64 c1,.int .i64 c2,.int .i64 c3,.int .i64 c4,t5]] w (Fz w (.bool true)):=by
 go_enter Tryz.func254,Tryz.ntmps254
 go_wp2_with (first|(go_at_call 344;refine(bN2 _ s5 t5 d5 (h5.ext xT) (k5.ext xT)).mono ?_;rintro e w1 ⟨rfl,hx1⟩;have hz1:=hx1.size;obtain⟨hc1,hf1⟩:=hx1.cells;(repeat (first|simp only[World.size_alloc] at hz1 hc1 hf1|simp only[World.size_setCell] at hz1 hc1 hf1));have JJ:w.heap.size<w1.heap.size:=oM;have PP:w.heap.size+1<w1.heap.size:=oM))
 go_ret
 refine⟨rfl,?_⟩
 exact xT
theorem aU7(w:World)(B:Nat)(c0:Int)(c1:Int)(c2:Int)(c3:Int)(c4:Int)(s5:Value)(d5:List Int)(L5:Nat)(hL5:d5.length=L5*2)(q:Int)(h5:Ba B 286 2 w s5 d5)(h0:0<=q)(h1:q+(L5*2:Nat)<=4611686018427387904):Calls Tryz.prog 263 #[.agg #[.int .i64 c0,.int .i64 c1,.int .i64 c2,.int .i64 c3,.int .i64 c4,s5],.int .i64 q] w (IX w (Ep [s5]) (.int .i64 (q+(L5*2:Nat))) fun w'=>Ba B 286 2 w' s5 (run q (L5*2))):=by
 go_enter Tryz.func263,Tryz.ntmps263
 go_wp2_with (first|(go_at_call 345;refine(aT4 _ B s5 d5 L5 hL5 q (h5.ext xT) h0 h1).mono ?_;rintro e w1 ⟨rfl,hx1,g1⟩))
 go_ret
 exact⟨rfl,(Ext.upd ((Ext.refl w).alloc _) _).trans hx1,g1⟩
theorem bP8(w:World)(c0:Int)(c1:Int)(c2:Int)(c3:Int)(c4:Int)(s5:Value)(d5:List Int)(L5:Nat)(hL5:d5.length=L5*2)(h5:Aw 2 w s5 d5)(hs5:L5<=1048576):Calls Tryz.prog 126 #[.agg #[.int .i64 c0,.int .i64 c1,.int .i64 c2,.int .i64 c3,.int .i64 c4,s5]] w (Ret w fun v w'=>∃t5:Value,v=.agg #[.int .i64 c0,.int .i64 c1,.int .i64 c2,.int .i64 c3,.int .i64 c4,t5]/\Ba w.heap.size 286 2 w' t5 d5):=by
 go_enter Tryz.func126,Tryz.ntmps126
 go_wp2_with (first|(go_at_call 233;refine(bP5 _ c0 c1 c2 c3 c4 s5 d5 L5 hL5 (h5.ext xT) hs5).mono ?_;rintro e w1 ⟨_,rfl,hx1,t5,rfl,g5⟩;obtain⟨ta5,tn5,tc5,rfl⟩:=g5.shape;have hz1:=hx1.size;obtain⟨hc1,hf1⟩:=hx1.cells;(repeat (first|simp only[World.size_alloc] at hz1 hc1 hf1 g5|simp only[World.size_setCell] at hz1 hc1 hf1 g5));have JJ:w.heap.size<w1.heap.size:=oM;have PP:w.heap.size+1<w1.heap.size:=oM;have aC9:w.heap.size+1+1<w1.heap.size:=oM))
 refine bodyPost_ret (v:=.agg #[.int .i64 c0,.int .i64 c1,.int .i64 c2,.int .i64 c3,.int .i64 c4,.slice ta5 tn5 tc5]) ?_ rfl ?_
 .
  simp[results,Tryz.results126,go_sem, *]
 refine⟨_,rfl,?_,_,rfl,(g5.keep ?_).mono ?_⟩
 all_goals clear hc1 hf1
 .
  exact xT
 .
  repeat' (first|(with_reducible exact Chg.refl _ _)|(with_reducible refine Chg.drewN ?_ _)|(with_reducible refine Chg.drew ?_)|(with_reducible refine Chg.alloc ?_ _)|(with_reducible refine Chg.setLow ?_ ?_ _)|(with_reducible refine Chg.ext ?_ (by assumption))|omega)
 omega
theorem bP9(w:World)(c0:Int)(c1:Int)(c2:Int)(c3:Int)(c4:Int)(s5:Value)(d5:List Int)(L5:Nat)(hL5:d5.length=L5*2)(left:Int)(h5:Aw 2 w s5 d5)(h0:0<=left)(h1:left<=1048576):Calls Tryz.prog 103 #[.agg #[.int .i64 c0,.int .i64 c1,.int .i64 c2,.int .i64 c3,.int .i64 c4,s5],.int .i64 left] w (Ret w fun v' _=>SzR left (L5) v'):=by
 go_enter Tryz.func103,Tryz.ntmps103
 go_wp2_with (first|(go_at_call 205;refine(bP6 _ c0 c1 c2 c3 c4 s5 d5 L5 hL5 _ (h5.ext xT) oM oM).mono ?_;rintro e w1 ⟨v1,rfl,hx1,hv⟩;have hz1:=hx1.size;obtain⟨hc1,hf1⟩:=hx1.cells;(repeat (first|simp only[World.size_alloc] at hz1 hc1 hf1|simp only[World.size_setCell] at hz1 hc1 hf1));have JJ:w.heap.size<w1.heap.size:=oM;rcases hv with⟨rfl,q1⟩|⟨rfl,q1⟩))
 all_goals
  go_ret
  refine⟨_,rfl,?_,?_⟩
  .
   exact xT
  first|exact .inl ⟨rfl,by omega⟩|(refine .inr ⟨congrArg (Value.int .i64) ?_,?_⟩ <;> omega)
theorem bQ0(w:World)(c0:Int)(c1:Int)(c2:Int)(c3:Int)(c4:Int)(s5:Value)(t5:Value)(d5:List Int)(h5:Aw 2 w s5 d5)(k5:Aw 2 w t5 d5):Calls Tryz.prog 147 #[.agg #[.int .i64 c0,.int .i64 c1,.int .i64 c2,.int .i64 c3,.int .i64 c4,s5],.agg #[.int .i64 c0,.int .i64 c1,.int .i64 c2,.int .i64 c3,.int .i64 c4,t5]] w (Fz w (.bool true)):=by
 go_enter Tryz.func147,Tryz.ntmps147
 go_wp2_with (first|(go_at_call 254;refine(bP7 _ c0 c1 c2 c3 c4 s5 t5 d5 (h5.ext xT) (k5.ext xT)).mono ?_;rintro e w1 ⟨rfl,hx1⟩;have hz1:=hx1.size;obtain⟨hc1,hf1⟩:=hx1.cells;(repeat (first|simp only[World.size_alloc] at hz1 hc1 hf1|simp only[World.size_setCell] at hz1 hc1 hf1));have JJ:w.heap.size<w1.heap.size:=oM;have PP:w.heap.size+1<w1.heap.size:=oM))
 go_ret
 refine⟨rfl,?_⟩
 exact xT
theorem aU8(w:World)(B:Nat)(c0:Int)(c1:Int)(c2:Int)(c3:Int)(c4:Int)(s5:Value)(d5:List Int)(L5:Nat)(hL5:d5.length=L5*2)(q:Int)(h5:Ba B 286 2 w s5 d5)(h0:0<=q)(h1:q+(L5*2:Nat)<=4611686018427387904):Calls Tryz.prog 159 #[.agg #[.int .i64 c0,.int .i64 c1,.int .i64 c2,.int .i64 c3,.int .i64 c4,s5],.int .i64 q] w (IX w (Ep [s5]) (.int .i64 (q+(L5*2:Nat))) fun w'=>Ba B 286 2 w' s5 (run q (L5*2))):=by
 go_enter Tryz.func159,Tryz.ntmps159
 go_wp2_with (first|(go_at_call 263;refine(aU7 _ B c0 c1 c2 c3 c4 s5 d5 L5 hL5 q (h5.ext xT) h0 h1).mono ?_;rintro e w1 ⟨rfl,hx1,g1⟩))
 go_ret
 exact⟨rfl,(Ext.upd ((Ext.refl w).alloc _) _).trans hx1,g1⟩
theorem bF4(w:World)(c0:Int)(c1:Int)(c2:Int)(c3:Int)(c4:Int)(c5:Int)(c6:Int)(s7:Value)(d7:List Int)(L7:Nat)(hL7:d7.length=L7*2)(c8:Bool)(c9:Int)(c10:Int)(c11:Int)(c12:Int)(c13:Int)(c14:Int)(h7:Aw 2 w s7 d7)(hs7:L7<=1048576):Calls Tryz.prog 45 #[.agg #[.int .i64 c0,.int .i64 c1,.int .i64 c2,.int .i64 c3,.int .i64 c4,.int .i64 c5,.int .i64 c6,s7,.bool c8,.int .i64 c9,.int .i64 c10,.int .i64 c11,.int .i64 c12,.int .i64 c13,.int .i64 c14]] w (Ret w fun v w'=>∃t7:Value,v=.agg #[.int .i64 c0,.int .i64 c1,.int .i64 c2,.int .i64 c3,.int .i64 c4,.int .i64 c5,.int .i64 c6,t7,.bool c8,.int .i64 c9,.int .i64 c10,.int .i64 c11,.int .i64 c12,.int .i64 c13,.int .i64 c14]/\Ba w.heap.size 286 2 w' t7 d7):=by
 go_enter Tryz.func45,Tryz.ntmps45
 go_wp2_with (first|(go_at_call 126;refine(bP8 _ c2 c3 c4 c5 c6 s7 d7 L7 hL7 (h7.ext xT) hs7).mono ?_;rintro e w1 ⟨_,rfl,hx1,t7,rfl,g7⟩;obtain⟨ta7,tn7,tc7,rfl⟩:=g7.shape;have hz1:=hx1.size;obtain⟨hc1,hf1⟩:=hx1.cells;(repeat (first|simp only[World.size_alloc] at hz1 hc1 hf1 g7|simp only[World.size_setCell] at hz1 hc1 hf1 g7));have JJ:w.heap.size<w1.heap.size:=oM;have PP:w.heap.size+1<w1.heap.size:=oM;have aC9:w.heap.size+1+1<w1.heap.size:=oM)|(go_at_call 127;refine(aT5 _ c9 c10 c11 c12 c13).mono ?_;rintro e w2 ⟨rfl,hx2⟩;have hz2:=hx2.size;obtain⟨hc2,hf2⟩:=hx2.cells;(repeat (first|simp only[World.size_alloc] at hz2 hc2 hf2|simp only[World.size_setCell] at hz2 hc2 hf2));have VC:w.heap.size<w2.heap.size:=oM;have aD0:w.heap.size+1<w2.heap.size:=oM;have bZ4:w.heap.size+1+1<w2.heap.size:=oM))
 refine bodyPost_ret (v:=.agg #[.int .i64 c0,.int .i64 c1,.int .i64 c2,.int .i64 c3,.int .i64 c4,.int .i64 c5,.int .i64 c6,.slice ta7 tn7 tc7,.bool c8,.int .i64 c9,.int .i64 c10,.int .i64 c11,.int .i64 c12,.int .i64 c13,.int .i64 c14]) ?_ rfl ?_
 .
  simp[results,Tryz.results45,go_sem, *]
 refine⟨_,rfl,?_,_,rfl,(g7.keep ?_).mono ?_⟩
 all_goals clear hc1 hf1 hc2 hf2
 .
  exact xT
 .
  repeat' (first|(with_reducible exact Chg.refl _ _)|(with_reducible refine Chg.drewN ?_ _)|(with_reducible refine Chg.drew ?_)|(with_reducible refine Chg.alloc ?_ _)|(with_reducible refine Chg.setLow ?_ ?_ _)|(with_reducible refine Chg.ext ?_ (by assumption))|omega)
 omega
theorem bF5(w:World)(c0:Int)(c1:Int)(c2:Int)(c3:Int)(c4:Int)(c5:Int)(c6:Int)(s7:Value)(d7:List Int)(L7:Nat)(hL7:d7.length=L7*2)(c8:Bool)(c9:Int)(c10:Int)(c11:Int)(c12:Int)(c13:Int)(c14:Int)(left:Int)(h7:Aw 2 w s7 d7)(h0:0<=left)(h1:left<=1048576):Calls Tryz.prog 35 #[.agg #[.int .i64 c0,.int .i64 c1,.int .i64 c2,.int .i64 c3,.int .i64 c4,.int .i64 c5,.int .i64 c6,s7,.bool c8,.int .i64 c9,.int .i64 c10,.int .i64 c11,.int .i64 c12,.int .i64 c13,.int .i64 c14],.int .i64 left] w (Ret w fun v' _=>SzR left (L7) v'):=by
 go_enter Tryz.func35,Tryz.ntmps35
 go_wp2_with (first|(go_at_call 103;refine(bP9 _ c2 c3 c4 c5 c6 s7 d7 L7 hL7 _ (h7.ext xT) oM oM).mono ?_;rintro e w1 ⟨v1,rfl,hx1,hv⟩;have hz1:=hx1.size;obtain⟨hc1,hf1⟩:=hx1.cells;(repeat (first|simp only[World.size_alloc] at hz1 hc1 hf1|simp only[World.size_setCell] at hz1 hc1 hf1));have JJ:w.heap.size<w1.heap.size:=oM;rcases hv with⟨rfl,q1⟩|⟨rfl,q1⟩))
 all_goals
  go_ret
  refine⟨_,rfl,?_,?_⟩
  .
   exact xT
  first|exact .inl ⟨rfl,by omega⟩|(refine .inr ⟨congrArg (Value.int .i64) ?_,?_⟩ <;> omega)
theorem bF6(w:World)(c0:Int)(c1:Int)(c2:Int)(c3:Int)(c4:Int)(c5:Int)(c6:Int)(s7:Value)(t7:Value)(d7:List Int)(c8:Bool)(c9:Int)(c10:Int)(c11:Int)(c12:Int)(c13:Int)(c14:Int)(h7:Aw 2 w s7 d7)(k7:Aw 2 w t7 d7):Calls Tryz.prog 54 #[.agg #[.int .i64 c0,.int .i64 c1,.int .i64 c2,.int .i64 c3,.int .i64 c4,.int .i64 c5,.int .i64 c6,s7,.bool c8,.int .i64 c9,.int .i64 c10,.int .i64 c11,.int .i64 c12,.int .i64 c13,.int .i64 c14],.agg #[.int .i64 c0,.int .i64 c1,.int .i64 c2,.int .i64 c3,.int .i64 c4,.int .i64 c5,.int .i64 c6,t7,.bool c8,.int .i64 c9,.int .i64 c10,.int .i64 c11,.int .i64 c12,.int .i64 c13,.int .i64 c14]] w (Fz w (.bool true)):=by
 go_enter Tryz.func54,Tryz.ntmps54
 go_wp2_with (first|(go_at_call 147;refine(bQ0 _ c2 c3 c4 c5 c6 s7 t7 d7 (h7.ext xT) (k7.ext xT)).mono ?_;rintro e w1 ⟨rfl,hx1⟩;have hz1:=hx1.size;obtain⟨hc1,hf1⟩:=hx1.cells;(repeat (first|simp only[World.size_alloc] at hz1 hc1 hf1|simp only[World.size_setCell] at hz1 hc1 hf1));have JJ:w.heap.size<w1.heap.size:=oM;have PP:w.heap.size+1<w1.heap.size:=oM)|(go_at_call 148;refine(ZQ _ c9 c10 c11 c12 c13).mono ?_;rintro e w2 ⟨rfl,hx2⟩;have hz2:=hx2.size;obtain⟨hc2,hf2⟩:=hx2.cells;(repeat (first|simp only[World.size_alloc] at hz2 hc2 hf2|simp only[World.size_setCell] at hz2 hc2 hf2));have VC:w.heap.size<w2.heap.size:=oM;have aD0:w.heap.size+1<w2.heap.size:=oM))
 go_ret
 refine⟨rfl,?_⟩
 exact xT
theorem aO0(w:World)(B:Nat)(c0:Int)(c1:Int)(c2:Int)(c3:Int)(c4:Int)(c5:Int)(c6:Int)(s7:Value)(d7:List Int)(L7:Nat)(hL7:d7.length=L7*2)(c8:Bool)(c9:Int)(c10:Int)(c11:Int)(c12:Int)(c13:Int)(c14:Int)(q:Int)(h7:Ba B 286 2 w s7 d7)(h0:0<=q)(h1:q+(L7*2:Nat)<=4611686018427387904):Calls Tryz.prog 61 #[.agg #[.int .i64 c0,.int .i64 c1,.int .i64 c2,.int .i64 c3,.int .i64 c4,.int .i64 c5,.int .i64 c6,s7,.bool c8,.int .i64 c9,.int .i64 c10,.int .i64 c11,.int .i64 c12,.int .i64 c13,.int .i64 c14],.int .i64 q] w (IX w (Ep [s7]) (.int .i64 (q+(L7*2:Nat))) fun w'=>Ba B 286 2 w' s7 (run q (L7*2))):=by
 go_enter Tryz.func61,Tryz.ntmps61
 go_wp2_with (first|(go_at_call 159;refine(aU8 _ B c2 c3 c4 c5 c6 s7 d7 L7 hL7 q (h7.ext xT) h0 h1).mono ?_;rintro e w1 ⟨rfl,hx1,g1⟩))
 go_ret
 exact⟨rfl,(Ext.upd ((Ext.refl w).alloc _) _).trans hx1,g1⟩
end Go.Proofs.YtkpmbocbbgocbaaGreat
