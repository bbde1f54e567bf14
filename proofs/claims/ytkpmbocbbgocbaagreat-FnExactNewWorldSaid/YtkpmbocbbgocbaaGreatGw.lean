/- S2 S3 HelpB. -/
import Derived.Test.YtkpmbocbbgocbaaGreatGa
import Derived.Test.YtkpmbocbbgocbaaGreatGb
set_option linter.unusedSimpArgs false
set_option linter.unusedVariables false
set_option maxHeartbeats 8000000
set_option maxRecDepth 100000
namespace Go.Proofs.YtkpmbocbbgocbaaGreat
open Go.RowKit Go.G8
theorem rqGw0 {p:Prop} (h:p:=by intro KQ hKQ;(repeat (first|go_big_quiet_skip|(go_big_quiet_want;first|(refine quiet_load _ _ _ ?_ rfl rfl (fun wq hq=>?_) ?_;rotate_left;(focus ((try have y0:=hq.cell J0);(try have y1:=hq.cell J1);(try have y2:=hq.cell d0);(try have y3:=hq.cell d1);go_simp;first|done|rfl));(try simp only [redA,Act.put]);go_big_quiet_on)|(go_big_quiet_op;first|go_big_quiet_on|(refine⟨_,fun _ _=>rfl,?_⟩;go_big_quiet_on)|(apply Exists.intro;refine⟨fun wq hq=>?_,?_⟩;(focus (first|(go_at_call 387;exact call_ext hq (l3Has_c _ _ _ _ _ _ (h0_0.ext (hEr.trans hq)) (h0_1.ext (hEr.trans hq))))|(go_at_call 325;exact call_ext hq (sRowOk_c _ _ _ (hin.ext hq)))));go_big_quiet_on)))));exact wpQuiet_nil hKQ):p:=h
theorem sDiskOk_c (w:World) (s0_0:Value) (l0_0:List (List Int)) (s0_1:Value) (l0_1:List DWrite) (h0_0:Nest 0 w s0_0 (nestInt64S l0_0)) (h0_1:Nest 1 w s0_1 (nestWrite l0_1)) :
  Calls Tryz.prog 317 #[.agg #[s0_0,s0_1]] w (RetV w (.bool (diskOk (⟨l0_0,l0_1⟩:DDisk)))):=by
 obtain⟨a0,cap0,rfl,hc0,hm0,ha0⟩:=Nest.rows h0_0
 obtain⟨a1,cap1,rfl,hc1,hm1,ha1⟩:=Nest.writes h0_1
 have HA:=Lib.hid ha0;have HB:=Lib.hid ha1
 clear ha0 ha1
 unfold maxLen at hm0 hm1
 by_cases hz:1≤l0_0.length∧l0_0.length≤40∧l0_1.length≤60
 ·
  have HZ:=Lib.hid hz
  obtain⟨hz1,hz2,hz3⟩:=hz
  obtain⟨W0,hW0⟩:∃ W0,W0=w.alloc (.cells #[.slice a0 l0_0.length cap0,.slice a1 l0_1.length cap1] 70):=⟨_,rfl⟩
  have hEw:Ext w W0:=by rw [hW0];exact (Ext.refl _).alloc _
  have I0:W0.cell? ⟨w.heap.size,0,none⟩=some (.slice a0 l0_0.length cap0):=by rw [hW0];simp
  have I1:W0.cell? ⟨w.heap.size,1,none⟩=some (.slice a1 l0_1.length cap1):=by rw [hW0];simp
  go_enter Tryz.func317,Tryz.ntmps317
  go_wp2
  rw [← hW0]
  clear hW0
  go_loopw [3] (fun i wr=>∃ k:Nat,k≤l0_0.length∧i=.int .i64 k∧Ext W0 wr∧Hid ((l0_0.take k).all rowOk=true)) (fun i _=>l0_0.length - (intOf i).toNat)
  case atStart=>exact⟨0,Nat.zero_le _,rfl,Ext.refl _,Lib.hid (by simp)⟩
  case round =>
   obtain⟨k,hk,rfl,he,hp⟩:=hrel
   have hEr:=hEw.trans he
   have J0:=he.cell I0;have J1:=he.cell I1
   by_cases hlt:k<l0_0.length
   ·
    obtain⟨r,b1,o1,sa,sn,sc,hr,rfl,_,cc,hin0⟩:=HA.out k hlt
    have d0:=hEr.cell cc
    have hin:=hin0.ext hEr
    have HR:=Lib.hid hr
    clear hr cc hin0
    cases hb:rowOk r
    ·
     go_wp2_with (first|(go_at_call 325;refine (sRowOk_c _ _ _ (hin.ext xT)).mono ?_;rintro e w1 ⟨rfl,hx1⟩))
     go_ret
     exact⟨by rw [diskOk,all_no (p:=rowOk) (l:=l0_0) HR.out hb];simp,xT⟩
    go_wp2_with (first|(go_at_call 325;refine (sRowOk_c _ _ _ (hin.ext xT)).mono ?_;rintro e w1 ⟨rfl,hx1⟩))
    go_roundw
    case rel=>exact⟨k+1,by omega,by go_num,he.trans hx1,Lib.hid (all_step HR.out hp.out hb)⟩
    case measure=>simp [intOf];omega
   obtain rfl:k=l0_0.length:=by omega
   have hp':=hp.out
   rw [List.take_length] at hp'
   have HP:=Lib.hid hp'
   clear hp hp'
   go_wp2
   go_loopw [4] (fun i wr=>∃ k:Nat,k≤l0_1.length∧i=.int .i64 k∧Ext W0 wr∧Hid ((l0_1.take k).all (writeOk l0_0.length)=true)) (fun i _=>l0_1.length - (intOf i).toNat)
   case atStart=>exact⟨0,Nat.zero_le _,rfl,he,Lib.hid (by simp)⟩
   case round =>
    clear he hEr J0 J1
    obtain⟨k,hk,rfl,he,hp⟩:=hrel
    have hEr:=hEw.trans he
    have J0:=he.cell I0;have J1:=he.cell I1
    by_cases hlt:k<l0_1.length
    ·
     obtain⟨d,b1,o1,sa,sn,sc,hd,rfl,_,cc0,cc1,hin0⟩:=HB.out k hlt
     have d0:=hEr.cell cc0;have d1:=hEr.cell cc1
     have hin:=hin0.ext hEr
     have hbl:w.heap.size<wr.heap.size:=World.block_lt_of_cell? _ _ J0
     have hbm:b1<wr.heap.size:=World.block_lt_of_cell? _ _ d0
     have HD:=Lib.hid hd
     clear hd cc0 cc1 hin0
     cases ha:inb d.At 0 (l0_0.length - 1)
     ·
      go_wp2_with fail
      refine rx0 rqGw0 fun w1 hx1=>?_
      go_wp2
      go_ret
      exact⟨by rw [diskOk,all_no (p:=writeOk l0_0.length) (l:=l0_1) HD.out (by simp [writeOk,ha])];simp,xT⟩
     cases hb:rowOk d.Row
     ·
      go_wp2_with fail
      refine rx0 rqGw0 fun w1 hx1=>?_
      go_wp2
      go_ret
      exact⟨by rw [diskOk,all_no (p:=writeOk l0_0.length) (l:=l0_1) HD.out (by simp [writeOk,hb])];simp,xT⟩
     go_wp2_with fail
     refine rx0 rqGw0 fun w1 hx1=>?_
     go_wp2
     go_roundw
     case rel=>exact⟨k+1,by omega,by go_num,xT,Lib.hid (all_step HD.out hp.out (by simp [writeOk,ha,hb]))⟩
     case measure=>simp [intOf];omega
    obtain rfl:k=l0_1.length:=by omega
    have hp':=hp.out
    rw [List.take_length] at hp'
    go_wp2
    go_ret
    have hz':=HZ.out
    exact⟨by rw [diskOk,HP.out,hp'];simp [hz'],xT⟩
 go_enter Tryz.func317,Tryz.ntmps317
 go_wp2
 all_goals
  go_ret
  exact⟨by rw [diskOk];simp;omega,xT⟩
theorem diskOk_c (w:World) (s0_0:Value) (l0_0:List (List Int)) (s0_1:Value) (l0_1:List DWrite) (h0_0:Nest 0 w s0_0 (nestInt64S l0_0)) (h0_1:Nest 1 w s0_1 (nestWrite l0_1)) :
  Calls Tryz.prog 186 #[.agg #[s0_0,s0_1]] w (RetV w (.bool (diskOk (⟨l0_0,l0_1⟩:DDisk)))):=by
 obtain⟨a0,cap0,rfl,hc0,hm0,ha0⟩:=Nest.rows h0_0
 obtain⟨a1,cap1,rfl,hc1,hm1,ha1⟩:=Nest.writes h0_1
 have HA:=Lib.hid ha0;have HB:=Lib.hid ha1
 clear ha0 ha1
 unfold maxLen at hm0 hm1
 by_cases hz:1≤l0_0.length∧l0_0.length≤40∧l0_1.length≤60
 ·
  have HZ:=Lib.hid hz
  obtain⟨hz1,hz2,hz3⟩:=hz
  obtain⟨W0,hW0⟩:∃ W0,W0=w.alloc (.cells #[.slice a0 l0_0.length cap0,.slice a1 l0_1.length cap1] 70):=⟨_,rfl⟩
  have hEw:Ext w W0:=by rw [hW0];exact (Ext.refl _).alloc _
  have I0:W0.cell? ⟨w.heap.size,0,none⟩=some (.slice a0 l0_0.length cap0):=by rw [hW0];simp
  have I1:W0.cell? ⟨w.heap.size,1,none⟩=some (.slice a1 l0_1.length cap1):=by rw [hW0];simp
  go_enter Tryz.func186,Tryz.ntmps186
  go_wp2
  rw [← hW0]
  clear hW0
  go_loopw [26] (fun i wr=>∃ k:Nat,k≤l0_0.length∧i=.int .i64 k∧Ext W0 wr∧Hid ((l0_0.take k).all rowOk=true)) (fun i _=>l0_0.length - (intOf i).toNat)
  case atStart=>exact⟨0,Nat.zero_le _,rfl,Ext.refl _,Lib.hid (by simp)⟩
  case round =>
   obtain⟨k,hk,rfl,he,hp⟩:=hrel
   have hEr:=hEw.trans he
   have J0:=he.cell I0;have J1:=he.cell I1
   by_cases hlt:k<l0_0.length
   ·
    obtain⟨r,b1,o1,sa,sn,sc,hr,rfl,_,cc,hin0⟩:=HA.out k hlt
    have d0:=hEr.cell cc
    have hin:=hin0.ext hEr
    have HR:=Lib.hid hr
    clear hr cc hin0
    cases hb:rowOk r
    ·
     go_wp2_with (first|(go_at_call 276;refine (rowOk_c _ _ _ (hin.ext xT)).mono ?_;rintro e w1 ⟨rfl,hx1⟩))
     go_ret
     exact⟨by rw [diskOk,all_no (p:=rowOk) (l:=l0_0) HR.out hb];simp,xT⟩
    go_wp2_with (first|(go_at_call 276;refine (rowOk_c _ _ _ (hin.ext xT)).mono ?_;rintro e w1 ⟨rfl,hx1⟩))
    go_roundw
    case rel=>exact⟨k+1,by omega,by go_num,he.trans hx1,Lib.hid (all_step HR.out hp.out hb)⟩
    case measure=>simp [intOf];omega
   obtain rfl:k=l0_0.length:=by omega
   have hp':=hp.out
   rw [List.take_length] at hp'
   have HP:=Lib.hid hp'
   clear hp hp'
   go_wp2
   go_loopw [37] (fun i wr=>∃ k:Nat,k≤l0_1.length∧i=.int .i64 k∧Ext W0 wr∧Hid ((l0_1.take k).all (writeOk l0_0.length)=true)) (fun i _=>l0_1.length - (intOf i).toNat)
   case atStart=>exact⟨0,Nat.zero_le _,rfl,he,Lib.hid (by simp)⟩
   case round =>
    clear he hEr J0 J1
    obtain⟨k,hk,rfl,he,hp⟩:=hrel
    have hEr:=hEw.trans he
    have J0:=he.cell I0;have J1:=he.cell I1
    by_cases hlt:k<l0_1.length
    ·
     obtain⟨d,b1,o1,sa,sn,sc,hd,rfl,_,cc0,cc1,hin0⟩:=HB.out k hlt
     have d0:=hEr.cell cc0;have d1:=hEr.cell cc1
     have hin:=hin0.ext hEr
     have hbl:w.heap.size<wr.heap.size:=World.block_lt_of_cell? _ _ J0
     have hbm:b1<wr.heap.size:=World.block_lt_of_cell? _ _ d0
     have HD:=Lib.hid hd
     clear hd cc0 cc1 hin0
     cases ha:inb d.At 0 (l0_0.length - 1)
     ·
      go_wp2_with (first|(go_at_call 292;refine (sectorOk_c _ _ _ _ _ _ (h0_0.ext (hEr.trans xT)) (h0_1.ext (hEr.trans xT))).mono ?_;rintro e w2 ⟨rfl,hx2⟩;obtain⟨hcx,_⟩:=hx2.cells;(try simp only [World.size_alloc] at hcx))|(go_at_call 276;refine (rowOk_c _ _ _ (hin.ext xT)).mono ?_;rintro e w1 ⟨rfl,hx1⟩))
      go_ret
      exact⟨by rw [diskOk,all_no (p:=writeOk l0_0.length) (l:=l0_1) HD.out (by simp [writeOk,ha])];simp,xT⟩
     cases hb:rowOk d.Row
     ·
      go_wp2_with (first|(go_at_call 292;refine (sectorOk_c _ _ _ _ _ _ (h0_0.ext (hEr.trans xT)) (h0_1.ext (hEr.trans xT))).mono ?_;rintro e w2 ⟨rfl,hx2⟩;obtain⟨hcx,_⟩:=hx2.cells;(try simp only [World.size_alloc] at hcx))|(go_at_call 276;refine (rowOk_c _ _ _ (hin.ext xT)).mono ?_;rintro e w1 ⟨rfl,hx1⟩))
      go_ret
      exact⟨by rw [diskOk,all_no (p:=writeOk l0_0.length) (l:=l0_1) HD.out (by simp [writeOk,hb])];simp,xT⟩
     go_wp2_with (first|(go_at_call 292;refine (sectorOk_c _ _ _ _ _ _ (h0_0.ext (hEr.trans xT)) (h0_1.ext (hEr.trans xT))).mono ?_;rintro e w2 ⟨rfl,hx2⟩;obtain⟨hcx,_⟩:=hx2.cells;(try simp only [World.size_alloc] at hcx))|(go_at_call 276;refine (rowOk_c _ _ _ (hin.ext xT)).mono ?_;rintro e w1 ⟨rfl,hx1⟩))
     go_roundw
     case rel=>exact⟨k+1,by omega,by go_num,xT,Lib.hid (all_step HD.out hp.out (by simp [writeOk,ha,hb]))⟩
     case measure=>simp [intOf];omega
    obtain rfl:k=l0_1.length:=by omega
    have hp':=hp.out
    rw [List.take_length] at hp'
    go_wp2
    go_ret
    have hz':=HZ.out
    exact⟨by rw [diskOk,HP.out,hp'];simp [hz'],xT⟩
 go_enter Tryz.func186,Tryz.ntmps186
 go_wp2
 all_goals
  go_ret
  exact⟨by rw [diskOk];simp;omega,xT⟩
theorem sShelfOk_c (w:World) (s0_0:Value) (l0_0:List (List Int)) (s0_1:Value) (l0_1:List DWrite) (h0_0:Nest 0 w s0_0 (nestInt64S l0_0)) (h0_1:Nest 1 w s0_1 (nestWrite l0_1)) :
  Calls Tryz.prog 315 #[.agg #[s0_0,s0_1]] w (RetV w (.bool (shelfOk (⟨l0_0,l0_1⟩:DDisk)))):=by
 obtain⟨a0,cap0,rfl,hc0,hm0,-⟩:=Nest.rows h0_0
 obtain⟨a1,n1,c1,rfl⟩:=h0_1.shape
 unfold maxLen at hm0
 cases hd:diskOk (⟨l0_0,l0_1⟩:DDisk)
 all_goals
  go_enter Tryz.func315,Tryz.ntmps315
  go_wp2_with (first|(go_at_call 317;refine (sDiskOk_c _ _ _ _ _ (h0_0.ext xT) (h0_1.ext xT)).mono ?_;rintro e w1 ⟨rfl,hx1⟩;rw [hd];obtain⟨hcx,_⟩:=hx1.cells;(try simp only [World.size_alloc] at hcx)))
  all_goals
   go_ret
   refine⟨by first|(simp [shelfOk,hd];done)|(simp [shelfOk,hd,bq];omega)|(simp_all [shelfOk,bq];done)|(simp_all [shelfOk,bq];omega),?_⟩
   exact xT
theorem eqJobs_c (w:World) (c0:Int) (c1:Int) (c2:Int) (c3:Int) (c4:Int) (s5:Value) (t5:Value) (d5:List Int) (h5:Ints 2 w s5 d5) (k5:Ints 2 w t5 d5) :
  Calls Tryz.prog 254 #[.agg #[.int .i64 c0,.int .i64 c1,.int .i64 c2,.int .i64 c3,.int .i64 c4,s5],.agg #[.int .i64 c0,.int .i64 c1,.int .i64 c2,.int .i64 c3,.int .i64 c4,t5]] w (RetV w (.bool true)):=by
 go_enter Tryz.func254,Tryz.ntmps254
 go_wp2_with (first|(go_at_call 344;refine (eqDueS_c _ s5 t5 d5 (h5.ext xT) (k5.ext xT)).mono ?_;rintro e w1 ⟨rfl,hx1⟩;have hz1:=hx1.size;obtain⟨hc1,hf1⟩:=hx1.cells;(repeat (first|simp only [World.size_alloc] at hz1 hc1 hf1|simp only [World.size_setCell] at hz1 hc1 hf1));have hy1_0:w.heap.size<w1.heap.size:=oM;have hy1_1:w.heap.size+1<w1.heap.size:=oM))
 go_ret
 refine⟨rfl,?_⟩
 exact xT
theorem markJobs_c (w:World) (B:Nat) (c0:Int) (c1:Int) (c2:Int) (c3:Int) (c4:Int) (s5:Value) (d5:List Int) (L5:Nat) (hL5:d5.length=L5 * 2) (q:Int) (h5:OwnI B 286 2 w s5 d5) (h0:0≤q) (h1:q+(L5 * 2:Nat)≤4611686018427387904) :
  Calls Tryz.prog 263 #[.agg #[.int .i64 c0,.int .i64 c1,.int .i64 c2,.int .i64 c3,.int .i64 c4,s5],.int .i64 q] w (RetM w (feet [s5]) (.int .i64 (q+(L5 * 2:Nat))) fun w'=>OwnI B 286 2 w' s5 (run q (L5 * 2))):=by
 go_enter Tryz.func263,Tryz.ntmps263
 go_wp2_with (first|(go_at_call 345;refine (markDueS_c _ B s5 d5 L5 hL5 q (h5.ext xT) h0 h1).mono ?_;rintro e w1 ⟨rfl,hx1,g1⟩))
 go_ret
 exact⟨rfl,(Ext.upd ((Ext.refl w).alloc _) _).trans hx1,g1⟩
theorem heldJobs_c (w:World) (c0:Int) (c1:Int) (c2:Int) (c3:Int) (c4:Int) (s5:Value) (L5:Nat) (q:Int) (h5:Ints 2 w s5 (run q (L5 * 2))) (h0:0≤q) (h1:q+(L5 * 2:Nat)≤4611686018427387904) :
  Calls Tryz.prog 300 #[.agg #[.int .i64 c0,.int .i64 c1,.int .i64 c2,.int .i64 c3,.int .i64 c4,s5],.int .i64 q] w (RetV w (.int .i64 (q+(L5 * 2:Nat)))):=by
 have ht:decide (q+((L5 * 2:Nat):Int)<0)=false:=by simp;omega
 go_enter Tryz.func300,Tryz.ntmps300
 go_wp2_with (first|(go_at_call 374;refine (heldDueS_c _ s5 L5 q (h5.ext xT) h0 h1).mono ?_;rintro e w1 ⟨rfl,hx1⟩;have hz1:=hx1.size;obtain⟨hc1,hf1⟩:=hx1.cells;(repeat (first|simp only [World.size_alloc] at hz1 hc1 hf1|simp only [World.size_setCell] at hz1 hc1 hf1));have hy1_0:w.heap.size<w1.heap.size:=oM))
 go_ret
 refine⟨rfl,?_⟩
 exact xT
theorem eqView_c (w:World) (c0:Int) (c1:Int) (c2:Int) (c3:Int) (c4:Int) (s5:Value) (t5:Value) (d5:List Int) (h5:Ints 2 w s5 d5) (k5:Ints 2 w t5 d5) :
  Calls Tryz.prog 147 #[.agg #[.int .i64 c0,.int .i64 c1,.int .i64 c2,.int .i64 c3,.int .i64 c4,s5],.agg #[.int .i64 c0,.int .i64 c1,.int .i64 c2,.int .i64 c3,.int .i64 c4,t5]] w (RetV w (.bool true)):=by
 go_enter Tryz.func147,Tryz.ntmps147
 go_wp2_with (first|(go_at_call 254;refine (eqJobs_c _ c0 c1 c2 c3 c4 s5 t5 d5 (h5.ext xT) (k5.ext xT)).mono ?_;rintro e w1 ⟨rfl,hx1⟩;have hz1:=hx1.size;obtain⟨hc1,hf1⟩:=hx1.cells;(repeat (first|simp only [World.size_alloc] at hz1 hc1 hf1|simp only [World.size_setCell] at hz1 hc1 hf1));have hy1_0:w.heap.size<w1.heap.size:=oM;have hy1_1:w.heap.size+1<w1.heap.size:=oM))
 go_ret
 refine⟨rfl,?_⟩
 exact xT
theorem markView_c (w:World) (B:Nat) (c0:Int) (c1:Int) (c2:Int) (c3:Int) (c4:Int) (s5:Value) (d5:List Int) (L5:Nat) (hL5:d5.length=L5 * 2) (q:Int) (h5:OwnI B 286 2 w s5 d5) (h0:0≤q) (h1:q+(L5 * 2:Nat)≤4611686018427387904) :
  Calls Tryz.prog 159 #[.agg #[.int .i64 c0,.int .i64 c1,.int .i64 c2,.int .i64 c3,.int .i64 c4,s5],.int .i64 q] w (RetM w (feet [s5]) (.int .i64 (q+(L5 * 2:Nat))) fun w'=>OwnI B 286 2 w' s5 (run q (L5 * 2))):=by
 go_enter Tryz.func159,Tryz.ntmps159
 go_wp2_with (first|(go_at_call 263;refine (markJobs_c _ B c0 c1 c2 c3 c4 s5 d5 L5 hL5 q (h5.ext xT) h0 h1).mono ?_;rintro e w1 ⟨rfl,hx1,g1⟩))
 go_ret
 exact⟨rfl,(Ext.upd ((Ext.refl w).alloc _) _).trans hx1,g1⟩
theorem heldView_c (w:World) (c0:Int) (c1:Int) (c2:Int) (c3:Int) (c4:Int) (s5:Value) (L5:Nat) (q:Int) (h5:Ints 2 w s5 (run q (L5 * 2))) (h0:0≤q) (h1:q+(L5 * 2:Nat)≤4611686018427387904) :
  Calls Tryz.prog 195 #[.agg #[.int .i64 c0,.int .i64 c1,.int .i64 c2,.int .i64 c3,.int .i64 c4,s5],.int .i64 q] w (RetV w (.int .i64 (q+(L5 * 2:Nat)))):=by
 have ht:decide (q+((L5 * 2:Nat):Int)<0)=false:=by simp;omega
 go_enter Tryz.func195,Tryz.ntmps195
 go_wp2_with (first|(go_at_call 300;refine (heldJobs_c _ c0 c1 c2 c3 c4 s5 L5 q (h5.ext xT) h0 h1).mono ?_;rintro e w1 ⟨rfl,hx1⟩;have hz1:=hx1.size;obtain⟨hc1,hf1⟩:=hx1.cells;(repeat (first|simp only [World.size_alloc] at hz1 hc1 hf1|simp only [World.size_setCell] at hz1 hc1 hf1));have hy1_0:w.heap.size<w1.heap.size:=oM))
 go_ret
 refine⟨rfl,?_⟩
 exact xT
theorem eqSched_c (w:World) (c0:Int) (c1:Int) (c2:Int) (c3:Int) (c4:Int) (c5:Int) (c6:Int) (s7:Value) (t7:Value) (d7:List Int) (c8:Bool) (c9:Int) (c10:Int) (c11:Int) (c12:Int) (c13:Int) (c14:Int) (h7:Ints 2 w s7 d7) (k7:Ints 2 w t7 d7) :
  Calls Tryz.prog 54 #[.agg #[.int .i64 c0,.int .i64 c1,.int .i64 c2,.int .i64 c3,.int .i64 c4,.int .i64 c5,.int .i64 c6,s7,.bool c8,.int .i64 c9,.int .i64 c10,.int .i64 c11,.int .i64 c12,.int .i64 c13,.int .i64 c14],.agg #[.int .i64 c0,.int .i64 c1,.int .i64 c2,.int .i64 c3,.int .i64 c4,.int .i64 c5,.int .i64 c6,t7,.bool c8,.int .i64 c9,.int .i64 c10,.int .i64 c11,.int .i64 c12,.int .i64 c13,.int .i64 c14]] w (RetV w (.bool true)):=by
 go_enter Tryz.func54,Tryz.ntmps54
 go_wp2_with (first|(go_at_call 147;refine (eqView_c _ c2 c3 c4 c5 c6 s7 t7 d7 (h7.ext xT) (k7.ext xT)).mono ?_;rintro e w1 ⟨rfl,hx1⟩;have hz1:=hx1.size;obtain⟨hc1,hf1⟩:=hx1.cells;(repeat (first|simp only [World.size_alloc] at hz1 hc1 hf1|simp only [World.size_setCell] at hz1 hc1 hf1));have hy1_0:w.heap.size<w1.heap.size:=oM;have hy1_1:w.heap.size+1<w1.heap.size:=oM)|(go_at_call 148;refine (eqOp_c _ c9 c10 c11 c12 c13).mono ?_;rintro e w2 ⟨rfl,hx2⟩;have hz2:=hx2.size;obtain⟨hc2,hf2⟩:=hx2.cells;(repeat (first|simp only [World.size_alloc] at hz2 hc2 hf2|simp only [World.size_setCell] at hz2 hc2 hf2));have hy2_0:w.heap.size<w2.heap.size:=oM;have hy2_1:w.heap.size+1<w2.heap.size:=oM))
 go_ret
 refine⟨rfl,?_⟩
 exact xT
theorem markSched_c (w:World) (B:Nat) (c0:Int) (c1:Int) (c2:Int) (c3:Int) (c4:Int) (c5:Int) (c6:Int) (s7:Value) (d7:List Int) (L7:Nat) (hL7:d7.length=L7 * 2) (c8:Bool) (c9:Int) (c10:Int) (c11:Int) (c12:Int) (c13:Int) (c14:Int) (q:Int) (h7:OwnI B 286 2 w s7 d7) (h0:0≤q) (h1:q+(L7 * 2:Nat)≤4611686018427387904) :
  Calls Tryz.prog 61 #[.agg #[.int .i64 c0,.int .i64 c1,.int .i64 c2,.int .i64 c3,.int .i64 c4,.int .i64 c5,.int .i64 c6,s7,.bool c8,.int .i64 c9,.int .i64 c10,.int .i64 c11,.int .i64 c12,.int .i64 c13,.int .i64 c14],.int .i64 q] w (RetM w (feet [s7]) (.int .i64 (q+(L7 * 2:Nat))) fun w'=>OwnI B 286 2 w' s7 (run q (L7 * 2))):=by
 go_enter Tryz.func61,Tryz.ntmps61
 go_wp2_with (first|(go_at_call 159;refine (markView_c _ B c2 c3 c4 c5 c6 s7 d7 L7 hL7 q (h7.ext xT) h0 h1).mono ?_;rintro e w1 ⟨rfl,hx1,g1⟩))
 go_ret
 exact⟨rfl,(Ext.upd ((Ext.refl w).alloc _) _).trans hx1,g1⟩
theorem heldSched_c (w:World) (c0:Int) (c1:Int) (c2:Int) (c3:Int) (c4:Int) (c5:Int) (c6:Int) (s7:Value) (L7:Nat) (c8:Bool) (c9:Int) (c10:Int) (c11:Int) (c12:Int) (c13:Int) (c14:Int) (q:Int) (h7:Ints 2 w s7 (run q (L7 * 2))) (h0:0≤q) (h1:q+(L7 * 2:Nat)≤4611686018427387904) :
  Calls Tryz.prog 92 #[.agg #[.int .i64 c0,.int .i64 c1,.int .i64 c2,.int .i64 c3,.int .i64 c4,.int .i64 c5,.int .i64 c6,s7,.bool c8,.int .i64 c9,.int .i64 c10,.int .i64 c11,.int .i64 c12,.int .i64 c13,.int .i64 c14],.int .i64 q] w (RetV w (.int .i64 (q+(L7 * 2:Nat)))):=by
 have ht:decide (q+((L7 * 2:Nat):Int)<0)=false:=by simp;omega
 go_enter Tryz.func92,Tryz.ntmps92
 go_wp2_with (first|(go_at_call 195;refine (heldView_c _ c2 c3 c4 c5 c6 s7 L7 q (h7.ext xT) h0 h1).mono ?_;rintro e w1 ⟨rfl,hx1⟩;have hz1:=hx1.size;obtain⟨hc1,hf1⟩:=hx1.cells;(repeat (first|simp only [World.size_alloc] at hz1 hc1 hf1|simp only [World.size_setCell] at hz1 hc1 hf1));have hy1_0:w.heap.size<w1.heap.size:=oM))
 go_ret
 refine⟨rfl,?_⟩
 exact xT
end Go.Proofs.YtkpmbocbbgocbaaGreat
