/- S2 S3 HelpB. -/
import Derived.Test.YtkpmbocbbgocbaaGreatQGb
set_option linter.unusedSimpArgs false
set_option linter.unusedVariables false
set_option maxHeartbeats 8000000
set_option maxRecDepth 100000
namespace Go.Proofs.YtkpmbocbbgocbaaGreat
open Go.RowKit Go.G8
theorem kE{p:Prop}(h:p:=by intro KQ hKQ;(repeat (first|go_big_quiet_skip|(go_big_quiet_want;first|(refine Br _ _ _ ?_ rfl rfl (fun wq hq=>?_) ?_;rotate_left;(focus((try have y0:=hq.cell J0);(try have y1:=hq.cell J1);(try have y2:=hq.cell d0);(try have y3:=hq.cell d1);go_simp;first|done|rfl));(try simp only[Ab,Act.put]);go_big_quiet_on)|(go_big_quiet_op;first|go_big_quiet_on|(refine⟨_,fun _ _=>rfl,?_⟩;go_big_quiet_on)|(apply Exists.intro;refine⟨fun wq hq=>?_,?_⟩;(focus(first|(go_at_call 387;exact Cv hq (mG _ _ _ _ _ _ (Dk.ext (hEr.trans hq)) (Ev.ext (hEr.trans hq))))|(go_at_call 325;exact Cv hq (Qc _ _ _ (hin.ext hq)))));go_big_quiet_on)))));exact wpQuiet_nil hKQ):p:=h
theorem Nq(w:World)(Dl:Value)(Ad:List (List Int))(Fe:Value)(Am:List Eb)(Dk:Ck 0 w Dl (Ac Ad))(Ev:Ck 1 w Fe (Ah Am)):Calls Tryz.prog 317 #[.agg #[Dl,Fe]] w (Cp w (.bool (Fu (⟨Ad,Am⟩:Ez)))):=by
 obtain⟨a0,cap0,rfl,hc0,hm0,ha0⟩:=Ck.rows Dk
 obtain⟨a1,cap1,rfl,hc1,hm1,ha1⟩:=Ck.writes Ev
 have HA:=Lib.hid ha0;have HB:=Lib.hid ha1
 clear ha0 ha1
 unfold maxLen at hm0 hm1
 by_cases hz:1<=Ad.length/\Ad.length<=40/\Am.length<=60
 .
  have HZ:=Lib.hid hz
  obtain⟨hz1,hz2,hz3⟩:=hz
  obtain⟨W0,hW0⟩:∃W0,W0=w.alloc (.cells #[.slice a0 Ad.length cap0,.slice a1 Am.length cap1] 70):=⟨_,rfl⟩
  have hEw:Ext w W0:=by rw[hW0];exact(Ext.refl _).alloc _
  have I0:W0.cell? ⟨w.heap.size,0,none⟩=some (.slice a0 Ad.length cap0):=by rw[hW0];simp
  have I1:W0.cell? ⟨w.heap.size,1,none⟩=some (.slice a1 Am.length cap1):=by rw[hW0];simp
  go_enter Tryz.func317,Tryz.ntmps317
  go_wp2
  rw[<-hW0]
  clear hW0
  go_loopw [3] (fun i wr=>∃k:Nat,k<=Ad.length/\i=.int .i64 k/\Ext W0 wr/\Hid ((Ad.take k).all Ik=true)) (fun i _=>Ad.length - (intOf i).toNat)
  case atStart=>exact⟨0,Nat.zero_le _,rfl,Ext.refl _,Lib.hid (by simp)⟩
  case round =>
   obtain⟨k,hk,rfl,he,hp⟩:=hrel
   have hEr:=hEw.trans he
   have J0:=he.cell I0;have J1:=he.cell I1
   by_cases hlt:k<Ad.length
   .
    obtain⟨r,b1,o1,sa,sn,sc,hr,rfl,_,cc,hin0⟩:=HA.out k hlt
    have d0:=hEr.cell cc
    have hin:=hin0.ext hEr
    have HR:=Lib.hid hr
    clear hr cc hin0
    cases hb:Ik r
    .
     go_wp2_with (first|(go_at_call 325;refine(Qc _ _ _ (hin.ext xT)).mono ?_;rintro e w1 ⟨rfl,hx1⟩))
     go_ret
     exact⟨by rw[Fu,Nc (p:=Ik) (l:=Ad) HR.out hb];simp,xT⟩
    go_wp2_with (first|(go_at_call 325;refine(Qc _ _ _ (hin.ext xT)).mono ?_;rintro e w1 ⟨rfl,hx1⟩))
    go_roundw
    case rel=>exact⟨k+1,by omega,by go_num,he.trans hx1,Lib.hid (Ld HR.out hp.out hb)⟩
    case measure=>simp[intOf];omega
   obtain rfl:k=Ad.length:=by omega
   have hp':=hp.out
   rw[List.take_length] at hp'
   have HP:=Lib.hid hp'
   clear hp hp'
   go_wp2
   go_loopw [4] (fun i wr=>∃k:Nat,k<=Am.length/\i=.int .i64 k/\Ext W0 wr/\Hid ((Am.take k).all (Ko Ad.length)=true)) (fun i _=>Am.length - (intOf i).toNat)
   case atStart=>exact⟨0,Nat.zero_le _,rfl,he,Lib.hid (by simp)⟩
   case round =>
    clear he hEr J0 J1
    obtain⟨k,hk,rfl,he,hp⟩:=hrel
    have hEr:=hEw.trans he
    have J0:=he.cell I0;have J1:=he.cell I1
    by_cases hlt:k<Am.length
    .
     obtain⟨d,b1,o1,sa,sn,sc,hd,rfl,_,cc0,cc1,hin0⟩:=HB.out k hlt
     have d0:=hEr.cell cc0;have d1:=hEr.cell cc1
     have hin:=hin0.ext hEr
     have hbl:w.heap.size<wr.heap.size:=World.block_lt_of_cell? _ _ J0
     have hbm:b1<wr.heap.size:=World.block_lt_of_cell? _ _ d0
     have HD:=Lib.hid hd
     clear hd cc0 cc1 hin0
     cases ha:inb d.At 0 (Ad.length - 1)
     .
      go_wp2_with fail
      refine rx0 kE fun w1 hx1=>?_
      go_wp2
      go_ret
      exact⟨by rw[Fu,Nc (p:=Ko Ad.length) (l:=Am) HD.out (by simp[Ko,ha])];simp,xT⟩
     cases hb:Ik d.Row
     .
      go_wp2_with fail
      refine rx0 kE fun w1 hx1=>?_
      go_wp2
      go_ret
      exact⟨by rw[Fu,Nc (p:=Ko Ad.length) (l:=Am) HD.out (by simp[Ko,hb])];simp,xT⟩
     go_wp2_with fail
     refine rx0 kE fun w1 hx1=>?_
     go_wp2
     go_roundw
     case rel=>exact⟨k+1,by omega,by go_num,xT,Lib.hid (Ld HD.out hp.out (by simp[Ko,ha,hb]))⟩
     case measure=>simp[intOf];omega
    obtain rfl:k=Am.length:=by omega
    have hp':=hp.out
    rw[List.take_length] at hp'
    go_wp2
    go_ret
    have hz':=HZ.out
    exact⟨by rw[Fu,HP.out,hp'];simp[hz'],xT⟩
 go_enter Tryz.func317,Tryz.ntmps317
 go_wp2
 all_goals
  go_ret
  exact⟨by rw[Fu];simp;omega,xT⟩
theorem Rm(w:World)(Dl:Value)(Ad:List (List Int))(Fe:Value)(Am:List Eb)(Dk:Ck 0 w Dl (Ac Ad))(Ev:Ck 1 w Fe (Ah Am)):Calls Tryz.prog 186 #[.agg #[Dl,Fe]] w (Cp w (.bool (Fu (⟨Ad,Am⟩:Ez)))):=by
 obtain⟨a0,cap0,rfl,hc0,hm0,ha0⟩:=Ck.rows Dk
 obtain⟨a1,cap1,rfl,hc1,hm1,ha1⟩:=Ck.writes Ev
 have HA:=Lib.hid ha0;have HB:=Lib.hid ha1
 clear ha0 ha1
 unfold maxLen at hm0 hm1
 by_cases hz:1<=Ad.length/\Ad.length<=40/\Am.length<=60
 .
  have HZ:=Lib.hid hz
  obtain⟨hz1,hz2,hz3⟩:=hz
  obtain⟨W0,hW0⟩:∃W0,W0=w.alloc (.cells #[.slice a0 Ad.length cap0,.slice a1 Am.length cap1] 70):=⟨_,rfl⟩
  have hEw:Ext w W0:=by rw[hW0];exact(Ext.refl _).alloc _
  have I0:W0.cell? ⟨w.heap.size,0,none⟩=some (.slice a0 Ad.length cap0):=by rw[hW0];simp
  have I1:W0.cell? ⟨w.heap.size,1,none⟩=some (.slice a1 Am.length cap1):=by rw[hW0];simp
  go_enter Tryz.func186,Tryz.ntmps186
  go_wp2
  rw[<-hW0]
  clear hW0
  go_loopw [26] (fun i wr=>∃k:Nat,k<=Ad.length/\i=.int .i64 k/\Ext W0 wr/\Hid ((Ad.take k).all Ik=true)) (fun i _=>Ad.length - (intOf i).toNat)
  case atStart=>exact⟨0,Nat.zero_le _,rfl,Ext.refl _,Lib.hid (by simp)⟩
  case round =>
   obtain⟨k,hk,rfl,he,hp⟩:=hrel
   have hEr:=hEw.trans he
   have J0:=he.cell I0;have J1:=he.cell I1
   by_cases hlt:k<Ad.length
   .
    obtain⟨r,b1,o1,sa,sn,sc,hr,rfl,_,cc,hin0⟩:=HA.out k hlt
    have d0:=hEr.cell cc
    have hin:=hin0.ext hEr
    have HR:=Lib.hid hr
    clear hr cc hin0
    cases hb:Ik r
    .
     go_wp2_with (first|(go_at_call 276;refine(Qv _ _ _ (hin.ext xT)).mono ?_;rintro e w1 ⟨rfl,hx1⟩))
     go_ret
     exact⟨by rw[Fu,Nc (p:=Ik) (l:=Ad) HR.out hb];simp,xT⟩
    go_wp2_with (first|(go_at_call 276;refine(Qv _ _ _ (hin.ext xT)).mono ?_;rintro e w1 ⟨rfl,hx1⟩))
    go_roundw
    case rel=>exact⟨k+1,by omega,by go_num,he.trans hx1,Lib.hid (Ld HR.out hp.out hb)⟩
    case measure=>simp[intOf];omega
   obtain rfl:k=Ad.length:=by omega
   have hp':=hp.out
   rw[List.take_length] at hp'
   have HP:=Lib.hid hp'
   clear hp hp'
   go_wp2
   go_loopw [37] (fun i wr=>∃k:Nat,k<=Am.length/\i=.int .i64 k/\Ext W0 wr/\Hid ((Am.take k).all (Ko Ad.length)=true)) (fun i _=>Am.length - (intOf i).toNat)
   case atStart=>exact⟨0,Nat.zero_le _,rfl,he,Lib.hid (by simp)⟩
   case round =>
    clear he hEr J0 J1
    obtain⟨k,hk,rfl,he,hp⟩:=hrel
    have hEr:=hEw.trans he
    have J0:=he.cell I0;have J1:=he.cell I1
    by_cases hlt:k<Am.length
    .
     obtain⟨d,b1,o1,sa,sn,sc,hd,rfl,_,cc0,cc1,hin0⟩:=HB.out k hlt
     have d0:=hEr.cell cc0;have d1:=hEr.cell cc1
     have hin:=hin0.ext hEr
     have hbl:w.heap.size<wr.heap.size:=World.block_lt_of_cell? _ _ J0
     have hbm:b1<wr.heap.size:=World.block_lt_of_cell? _ _ d0
     have HD:=Lib.hid hd
     clear hd cc0 cc1 hin0
     cases ha:inb d.At 0 (Ad.length - 1)
     .
      go_wp2_with (first|(go_at_call 292;refine(Ry _ _ _ _ _ _ (Dk.ext (hEr.trans xT)) (Ev.ext (hEr.trans xT))).mono ?_;rintro e w2 ⟨rfl,hx2⟩;obtain⟨hcx,_⟩:=hx2.cells;(try simp only[World.size_alloc] at hcx))|(go_at_call 276;refine(Qv _ _ _ (hin.ext xT)).mono ?_;rintro e w1 ⟨rfl,hx1⟩))
      go_ret
      exact⟨by rw[Fu,Nc (p:=Ko Ad.length) (l:=Am) HD.out (by simp[Ko,ha])];simp,xT⟩
     cases hb:Ik d.Row
     .
      go_wp2_with (first|(go_at_call 292;refine(Ry _ _ _ _ _ _ (Dk.ext (hEr.trans xT)) (Ev.ext (hEr.trans xT))).mono ?_;rintro e w2 ⟨rfl,hx2⟩;obtain⟨hcx,_⟩:=hx2.cells;(try simp only[World.size_alloc] at hcx))|(go_at_call 276;refine(Qv _ _ _ (hin.ext xT)).mono ?_;rintro e w1 ⟨rfl,hx1⟩))
      go_ret
      exact⟨by rw[Fu,Nc (p:=Ko Ad.length) (l:=Am) HD.out (by simp[Ko,hb])];simp,xT⟩
     go_wp2_with (first|(go_at_call 292;refine(Ry _ _ _ _ _ _ (Dk.ext (hEr.trans xT)) (Ev.ext (hEr.trans xT))).mono ?_;rintro e w2 ⟨rfl,hx2⟩;obtain⟨hcx,_⟩:=hx2.cells;(try simp only[World.size_alloc] at hcx))|(go_at_call 276;refine(Qv _ _ _ (hin.ext xT)).mono ?_;rintro e w1 ⟨rfl,hx1⟩))
     go_roundw
     case rel=>exact⟨k+1,by omega,by go_num,xT,Lib.hid (Ld HD.out hp.out (by simp[Ko,ha,hb]))⟩
     case measure=>simp[intOf];omega
    obtain rfl:k=Am.length:=by omega
    have hp':=hp.out
    rw[List.take_length] at hp'
    go_wp2
    go_ret
    have hz':=HZ.out
    exact⟨by rw[Fu,HP.out,hp'];simp[hz'],xT⟩
 go_enter Tryz.func186,Tryz.ntmps186
 go_wp2
 all_goals
  go_ret
  exact⟨by rw[Fu];simp;omega,xT⟩
theorem kF(w:World)(Dl:Value)(Ad:List (List Int))(Fe:Value)(Am:List Eb)(Dk:Ck 0 w Dl (Ac Ad))(Ev:Ck 1 w Fe (Ah Am)):Calls Tryz.prog 315 #[.agg #[Dl,Fe]] w (Cp w (.bool (Mk (⟨Ad,Am⟩:Ez)))):=by
 obtain⟨a0,cap0,rfl,hc0,hm0,-⟩:=Ck.rows Dk
 obtain⟨a1,n1,c1,rfl⟩:=Ev.shape
 unfold maxLen at hm0
 cases hd:Fu (⟨Ad,Am⟩:Ez)
 all_goals
  go_enter Tryz.func315,Tryz.ntmps315
  go_wp2_with (first|(go_at_call 317;refine(Nq _ _ _ _ _ (Dk.ext xT) (Ev.ext xT)).mono ?_;rintro e w1 ⟨rfl,hx1⟩;rw[hd];obtain⟨hcx,_⟩:=hx1.cells;(try simp only[World.size_alloc] at hcx)))
  all_goals
   go_ret
   refine⟨by first|(simp[Mk,hd];done)|(simp[Mk,hd,bq];omega)|(simp_all [Mk,bq];done)|(simp_all [Mk,bq];omega),?_⟩
   exact xT
theorem nG(w:World)(Dl:Value)(Ad:List (List Int))(Fe:Value)(Am:List Eb)(Dk:Ck 0 w Dl (Ac Ad))(Ev:Ck 1 w Fe (Ah Am)):Calls Tryz.prog 291 #[.agg #[Dl,Fe]] w (Cp w (.bool (Mk (⟨Ad,Am⟩:Ez)))):=by
 obtain⟨a0,cap0,rfl,hc0,hm0,-⟩:=Ck.rows Dk
 obtain⟨a1,n1,c1,rfl⟩:=Ev.shape
 unfold maxLen at hm0
 cases hd:Fu (⟨Ad,Am⟩:Ez)
 all_goals
  go_enter Tryz.func291,Tryz.ntmps291
  go_wp2_with (first|(go_at_call 186;refine(Rm _ _ _ _ _ (Dk.ext xT) (Ev.ext xT)).mono ?_;rintro e w1 ⟨rfl,hx1⟩;rw[hd];obtain⟨hcx,_⟩:=hx1.cells;(try simp only[World.size_alloc] at hcx)))
  all_goals
   go_ret
   refine⟨by first|(simp[Mk,hd];done)|(simp[Mk,hd,bq];omega)|(simp_all [Mk,bq];done)|(simp_all [Mk,bq];omega),?_⟩
   exact xT
end Go.Proofs.YtkpmbocbbgocbaaGreat
