/- HelpA HelpC HelpD HelpE HelpF V1 S1 S4 HelpG. -/
import Derived.Test.YtkpmbocbbgocbaaGreatPGa
set_option linter.unusedSimpArgs false
set_option linter.unusedVariables false
set_option maxHeartbeats 8000000
set_option maxRecDepth 100000
namespace Go.Proofs.YtkpmbocbbgocbaaGreat
open Go.RowKit Go.G8
theorem BM:(Tryz.prog.info? 2).map (fun i=>(i.zero,i.size,i.bytes))=some (some (.int .i64 0),1,8):=by kernel_rfl
theorem bM9:(Tryz.prog.info? 286).map (fun i=>(i.zero,i.size,i.bytes))=some (some (.agg #[.int .i64 0,.int .i64 0]),2,16):=by kernel_rfl
theorem RH(w:World)(v:Value)(xs:List Int)(L:Nat)(hL:xs.length=L*1)(h:Aw 1 w v xs)(hs:L<=1048576):Calls Tryz.prog 48 #[v] w (Ret w fun v' w'=>Ba w.heap.size 2 1 w' v' xs):=by
 obtain⟨a,len,ca,rfl,hl,hca,hm,ha⟩:=h.open_
 obtain rfl:L=len:=by omega
 have HA:=Lib.hid ha;have HL:=Lib.hid hl
 clear ha hl hL
 unfold maxLen at hm
 obtain⟨i0,hi,hz0,hz1,hz2⟩:=info_parts BM
 go_enter Tryz.func48,Tryz.ntmps48
 have hmk:=fun W=>run_make (P:=Tryz.prog) W 62 2 i0 _ Tryz.underlying62 hi hz0 .i64 .i64 L L oM oM (by rw[hz2];omega) oM
 simp only[Int.toNat_natCast,hz1] at hmk
 go_wp2
 clear hmk
 go_loopw [4] (fun i wr=>∃k:Nat,k<=L/\i=.int .i64 k/\Ext w wr/\∃cur,Blk wr w.heap.size 2 cur/\cur.size=L*1/\Pre cur (k) (xs.map (.int .i64))) (fun i _=>L - (intOf i).toNat)
 case atStart=>exact⟨0,Nat.zero_le _,rfl,(Ext.refl _).alloc _,_,Blk.new _ _ _,by simp[size_madeCells],by simpa using Pre.zero _ _⟩
 case round =>
  obtain⟨k,hk,rfl,he,cur,hblk,hsz,hpre⟩:=hrel
  by_cases hlt:k<L
  .
   obtain⟨b1,o1,rfl,_,c1⟩:=HA.out k hlt
   obtain⟨x0,hx0,c10⟩:=c1 0 oM
   have d0:=he.cell c10
   simp only[Nat.add_zero,Nat.mul_one] at d0
   clear c1 c10
   have HX0:=Lib.hid hx0
   have HS:=Lib.hid hsz
   clear hx0 hsz
   obtain⟨z0,g0⟩:∃z,wr.cell? ⟨w.heap.size,k,none⟩=some z:=⟨_,by rw[hblk.cell];exact Array.getElem?_eq_getElem (by have:=HS.out;omega)⟩;have f0:=hblk.frozen (k)
   go_wp2
   go_roundw
   case rel=>exact⟨k+1,by omega,by go_num,(he.setCell (Nat.le_refl _) _),_,(hblk.set_ _ _),by simpa using HS.out,(hpre.set (by simpa using HX0.out) (by have:=HS.out;omega))⟩
   case measure=>simp[intOf];omega
  obtain rfl:k=L:=by omega
  go_wp2
  go_ret
  exact⟨_,rfl,he,Own.of_blk hblk (Nat.le_refl _) hsz (by simpa using HL.out) (Nat.le_refl _) (by unfold maxLen;omega) (hpre.cast oM)⟩
theorem RI(w:World)(v:Value)(xs:List Int)(L:Nat)(hL:xs.length=L*1)(left:Int)(h:Aw 1 w v xs)(h0:0<=left)(h1:left<=1048576):Calls Tryz.prog 38 #[v,.int .i64 left] w (Ret w fun v' _=>SzR left L v'):=by
 obtain⟨a,len,ca,rfl,hl,hca,hm,-⟩:=h.open_
 obtain rfl:L=len:=by omega
 clear h hl hL
 unfold maxLen at hm
 by_cases hlt:left<L
 .
  have ht:decide (left - (L:Int)<0)=true:=by simp;omega
  go_enter Tryz.func38,Tryz.ntmps38
  go_wp2
  go_ret
  exact⟨_,rfl,Ext.refl _,.inl ⟨rfl,hlt⟩⟩
 have ht:decide (left - (L:Int)<0)=false:=by simp;omega
 go_enter Tryz.func38,Tryz.ntmps38
 go_wp2
 go_ret
 exact⟨_,rfl,Ext.refl _,.inr ⟨rfl,by omega⟩⟩
theorem MB(w:World)(va vb:Value)(xs:List Int)(ha:Aw 1 w va xs)(hb:Aw 1 w vb xs):Calls Tryz.prog 17 #[va,vb] w (Fz w (.bool true)):=by
 obtain⟨a,len,ca,rfl,hl,hca,hm,ha'⟩:=ha.open_
 obtain⟨b,len',cb,rfl,hl',_,_,hb'⟩:=hb.open_
 obtain rfl:len=len':=by omega
 have HA:=Lib.hid ha';have HB:=Lib.hid hb'
 clear ha' hb' hl hl' ha hb
 unfold maxLen at hm
 go_enter Tryz.func17,Tryz.ntmps17
 go_wp2
 go_loopw [5] (fun i wr=>∃k:Nat,k<=len/\i=.int .i64 k/\Ext w wr) (fun i _=>len - (intOf i).toNat)
 case atStart=>exact⟨0,Nat.zero_le _,rfl,Ext.refl _⟩
 case round =>
  obtain⟨k,hk,rfl,he⟩:=hrel
  by_cases hlt:k<len
  .
   obtain⟨b1,o1,rfl,_,c1⟩:=HA.out k hlt
   obtain⟨b2,o2,rfl,_,c2⟩:=HB.out k hlt
   obtain⟨x0,hx0,c10⟩:=c1 0 oM
   obtain⟨y0,hy0,c20⟩:=c2 0 oM
   obtain rfl:x0=y0:=by rw[hx0] at hy0;exact Option.some.inj hy0
   have d0:=he.cell c10;have e0:=he.cell c20
   simp only[Nat.add_zero,Nat.mul_one] at d0 e0
   clear c1 c2 c10 c20 hx0 hy0
   go_wp2
   go_quiet (fail)
   go_wp2
   go_roundw
   case rel=>exact⟨k+1,by omega,by go_num,he.drewN _⟩
   case measure=>simp[intOf];omega
  go_wp2
  go_ret
  exact⟨rfl,he⟩
theorem OQ(w:World)(B:Nat)(v:Value)(xs:List Int)(L:Nat)(hL:xs.length=L)(q:Int)(h:Ba B 2 1 w v xs)(h0:0<=q)(h1:q+(L:Nat)<=4611686018427387904):Calls Tryz.prog 19 #[v,.int .i64 q] w (IX w (Ep [v]) (.int .i64 (q+(L:Nat))) fun w'=>Ba B 2 1 w' v (run q (L))):=by
 obtain⟨a,len,ca,rfl,hl,hca,hm,hop⟩:=Own.open_ h
 rw[List.length_map] at hl
 obtain rfl:L=len:=by omega
 unfold maxLen at hm
 rcases hop with h00|⟨g,cur0,rfl,hB,hb0,hs0,-⟩
 .
  subst h00
  have hfin:Ba B 2 1 w (.slice a 0 ca) (run q (0)):=by
   refine Own.empty h ?_ _ ?_
   .
    exact List.eq_nil_of_length_eq_zero (by simpa using hL)
   simp[run]
  have HF:=Lib.hid hfin
  clear hfin h hL hl
  have hq:q+((0:Nat):Int)=q:=by simp
  rw[hq]
  clear hq
  go_enter Tryz.func19,Tryz.ntmps19
  go_wp2
  go_loopw [1,5] (fun kk i wr=>kk=.int .i64 q/\i=.int .i64 0/\wr=w) (fun _ _ _=>0)
  case atStart=>exact⟨rfl,rfl,rfl⟩
  case round =>
   obtain⟨rfl,rfl,rfl⟩:=hrel
   go_wp2
   go_ret
   exact⟨rfl,Upd.refl _ _,HF.out⟩
 have HS:=Lib.hid hs0
 have HC:=Lib.hid (show L<=ca by have:=Nat.mul_le_mul_right 1 hca;omega)
 clear hs0 hL hl h
 go_enter Tryz.func19,Tryz.ntmps19
 go_wp2
 go_loopw [1,5] (fun kk i wr=>∃k:Nat,k<=L/\i=.int .i64 k/\(∃q':Int,q'=q+(k:Nat)/\kk=.int .i64 q')/\Upd w wr [g]/\∃cur,Blk wr g 2 cur/\cur.size=ca/\Pre cur (k) ((run q (L)).map (.int .i64))) (fun _ i _=>L - (intOf i).toNat)
 case atStart=>exact⟨0,Nat.zero_le _,rfl,⟨q,by simp,rfl⟩,Upd.refl _ _,cur0,hb0,by simpa using HS.out,by simpa using Pre.zero _ _⟩
 case round =>
  obtain⟨k,hk,rfl,⟨q',hq',rfl⟩,he,cur,hblk,hsz,hpre⟩:=hrel
  clear HS
  have HS:=Lib.hid hsz
  have HQ:=Lib.hid hq'
  by_cases hlt:k<L
  .
   have hq1:0<=q'/\q'+1<=4611686018427387904:=by have:=Av hlt 1;omega
   obtain⟨hq1,hq2⟩:=hq1
   clear hsz hq'
   obtain⟨z0,g0⟩:∃z,wr.cell? ⟨g,k,none⟩=some z:=⟨_,by rw[hblk.cell];exact Array.getElem?_eq_getElem (by have:=HS.out;have:=HC.out;omega)⟩
   have f0:=hblk.frozen (k)
   go_wp2
   go_roundw
   case rel=>exact⟨k+1,by omega,by go_num,⟨_,by have:=HQ.out;omega,rfl⟩,(he.setCell (by simp) _),_,(hblk.set_ _ _),by simp;exact HS.out,((hpre.set (aP (by have:=Av hlt 1;omega) (by have:=HQ.out;omega)) (by have:=HS.out;have:=Av hlt 1;have:=HC.out;omega))).cast oM⟩
   case measure=>simp[intOf];omega
  obtain rfl:k=L:=by omega
  clear hsz hq'
  go_wp2
  go_ret
  refine⟨congrArg (fun z=>Ending.returned (.int .i64 z)) HQ.out,he,Own.of_blk hblk hB (by simpa using HS.out) (by simp[GR]) hca (by unfold maxLen;omega) (hpre.cast oM)⟩
theorem aI1(w:World)(v:Value)(L:Nat)(q:Int)(h:Aw 1 w v (run q (L)))(h0:0<=q)(h1:q+(L:Nat)<=4611686018427387904):Calls Tryz.prog 20 #[v,.int .i64 q] w (Fz w (.int .i64 (q+(L:Nat)))):=by
 obtain⟨a,len,ca,rfl,hl,hca,hm,ha⟩:=h.open_
 rw[GR] at hl
 obtain rfl:L=len:=by omega
 have HA:=Lib.hid ha
 clear ha hl h
 unfold maxLen at hm
 go_enter Tryz.func20,Tryz.ntmps20
 go_wp2
 go_loopw [1,5] (fun kk i wr=>∃k:Nat,k<=L/\i=.int .i64 k/\(∃q':Int,q'=q+(k:Nat)/\kk=.int .i64 q')/\Ext w wr) (fun _ i _=>L - (intOf i).toNat)
 case atStart=>exact⟨0,Nat.zero_le _,rfl,⟨q,by simp,rfl⟩,Ext.refl _⟩
 case round =>
  obtain⟨k,hk,rfl,⟨q',hq',rfl⟩,he⟩:=hrel
  by_cases hlt:k<L
  .
   obtain⟨b1,o1,rfl,_,c1⟩:=HA.out k hlt
   obtain⟨x0,hx0,c10⟩:=c1 0 oM
   obtain rfl:q'=x0:=by rw[aZ9 _ _ _ (by have:=Av hlt 1;omega)] at hx0;have:=Option.some.inj hx0;omega
   have d0:=he.cell c10
   have hq1:0<=q'/\q'+1<=4611686018427387904:=by have:=Av hlt 1;omega
   obtain⟨hq1,hq2⟩:=hq1
   have HQ:=Lib.hid hq'
   simp only[Nat.add_zero,Nat.mul_one] at d0
   clear c1 c10 hx0 hq'
   go_wp2
   repeat (go_quiet (fail);go_wp2)
   go_roundw
   case rel=>exact⟨k+1,by omega,by go_num,⟨_,by have:=HQ.out;omega,rfl⟩,xT⟩
   case measure=>simp[intOf];omega
  obtain rfl:k=L:=by omega
  have HQ:=Lib.hid hq'
  clear hq'
  go_wp2
  go_ret
  exact⟨congrArg (fun z=>Ending.returned (.int .i64 z)) HQ.out,he⟩
theorem cB6(w:World)(x0 x1:Int):Calls Tryz.prog 395 #[.agg #[.int .i64 x0,.int .i64 x1]] w (Fz w (.agg #[.int .i64 x0,.int .i64 x1])):=by
 go_enter Tryz.func395,Tryz.ntmps395
 go_wp2
 refine bodyPost_ret (v:=.agg #[.int .i64 x0,.int .i64 x1]) (by simp[results,Tryz.results395,go_sem]) rfl ⟨rfl,?_⟩
 exact xT
theorem bN0(w:World)(v:Value)(xs:List Int)(L:Nat)(hL:xs.length=L*2)(h:Aw 2 w v xs)(hs:L<=1048576):Calls Tryz.prog 336 #[v] w (Ret w fun v' w'=>Ba w.heap.size 286 2 w' v' xs):=by
 obtain⟨a,len,ca,rfl,hl,hca,hm,ha⟩:=h.open_
 obtain rfl:L=len:=by omega
 have HA:=Lib.hid ha;have HL:=Lib.hid hl
 clear ha hl hL
 unfold maxLen at hm
 obtain⟨i0,hi,hz0,hz1,hz2⟩:=info_parts bM9
 go_enter Tryz.func336,Tryz.ntmps336
 have hmk:=fun W=>run_make (P:=Tryz.prog) W 89 286 i0 _ Tryz.underlying89 hi hz0 .i64 .i64 L L oM oM (by rw[hz2];omega) oM
 simp only[Int.toNat_natCast,hz1] at hmk
 go_wp2
 clear hmk
 go_loopw [4] (fun i wr=>∃k:Nat,k<=L/\i=.int .i64 k/\Ext w wr/\∃cur,Blk wr w.heap.size 286 cur/\cur.size=L*2/\Pre cur (k*2) (xs.map (.int .i64))) (fun i _=>L - (intOf i).toNat)
 case atStart=>exact⟨0,Nat.zero_le _,rfl,(Ext.refl _).alloc _,_,Blk.new _ _ _,by simp[size_madeCells],by simpa using Pre.zero _ _⟩
 case round =>
  obtain⟨k,hk,rfl,he,cur,hblk,hsz,hpre⟩:=hrel
  by_cases hlt:k<L
  .
   obtain⟨b1,o1,rfl,_,c1⟩:=HA.out k hlt
   obtain⟨x0,hx0,c10⟩:=c1 0 oM
   obtain⟨x1,hx1,c11⟩:=c1 1 oM
   have d0:=he.cell c10;have d1:=he.cell c11
   simp only[Nat.add_zero] at d0
   clear c1 c10 c11
   have HX0:=Lib.hid hx0;have HX1:=Lib.hid hx1
   have HS:=Lib.hid hsz
   clear hx0 hx1 hsz
   go_wp2_with (first|(go_at_call 395;refine(cB6 _ _ _).mono ?_;rintro e w1 ⟨rfl,hx⟩;have hb1:=hblk.ext hx;obtain⟨z0,g0⟩:∃z,w1.cell? ⟨w.heap.size,k*2,none⟩=some z:=⟨_,by rw[hb1.cell];exact Array.getElem?_eq_getElem (by have:=HS.out;omega)⟩;obtain⟨z1,g1⟩:∃z,w1.cell? ⟨w.heap.size,k*2+1,none⟩=some z:=⟨_,by rw[hb1.cell];exact Array.getElem?_eq_getElem (by have:=HS.out;omega)⟩;have f0:=hb1.frozen (k*2);have f1:=hb1.frozen (k*2+1)))
   go_roundw
   case rel=>exact⟨k+1,by omega,by go_num,(((he.trans hx).setCell (Nat.le_refl _) _).setCell (Nat.le_refl _) _),_,((hb1.set_ _ _).set_ _ _),by simp;exact HS.out,((hpre.set (by simpa using HX0.out) (by have:=HS.out;omega)).set (by simpa using HX1.out) (by have:=HS.out;simp;omega)).cast oM⟩
   case measure=>simp[intOf];omega
  obtain rfl:k=L:=by omega
  go_wp2
  go_ret
  exact⟨_,rfl,he,Own.of_blk hblk (Nat.le_refl _) hsz (by simpa using HL.out) (Nat.le_refl _) (by unfold maxLen;omega) hpre⟩
theorem bN1(w:World)(v:Value)(xs:List Int)(L:Nat)(hL:xs.length=L*2)(left:Int)(h:Aw 2 w v xs)(h0:0<=left)(h1:left<=1048576):Calls Tryz.prog 302 #[v,.int .i64 left] w (Ret w fun v' _=>SzR left L v'):=by
 obtain⟨a,len,ca,rfl,hl,hca,hm,-⟩:=h.open_
 obtain rfl:L=len:=by omega
 clear h hl hL
 unfold maxLen at hm
 by_cases hlt:left<L
 .
  have ht:decide (left - (L:Int)<0)=true:=by simp;omega
  go_enter Tryz.func302,Tryz.ntmps302
  go_wp2
  go_ret
  exact⟨_,rfl,Ext.refl _,.inl ⟨rfl,hlt⟩⟩
 have ht:decide (left - (L:Int)<0)=false:=by simp;omega
 go_enter Tryz.func302,Tryz.ntmps302
 go_wp2
 go_ret
 exact⟨_,rfl,Ext.refl _,.inr ⟨rfl,by omega⟩⟩
theorem cB7(w:World)(x0 x1:Int):Calls Tryz.prog 398 #[.agg #[.int .i64 x0,.int .i64 x1],.agg #[.int .i64 x0,.int .i64 x1]] w (Fz w (.bool true)):=by
 go_enter Tryz.func398,Tryz.ntmps398
 go_wp2
 repeat (go_quiet (fail);go_wp2)
 go_ret
 exact⟨rfl,xT⟩
theorem bN2(w:World)(va vb:Value)(xs:List Int)(ha:Aw 2 w va xs)(hb:Aw 2 w vb xs):Calls Tryz.prog 344 #[va,vb] w (Fz w (.bool true)):=by
 obtain⟨a,len,ca,rfl,hl,hca,hm,ha'⟩:=ha.open_
 obtain⟨b,len',cb,rfl,hl',_,_,hb'⟩:=hb.open_
 obtain rfl:len=len':=by omega
 have HA:=Lib.hid ha';have HB:=Lib.hid hb'
 clear ha' hb' hl hl' ha hb
 unfold maxLen at hm
 go_enter Tryz.func344,Tryz.ntmps344
 go_wp2
 go_loopw [5] (fun i wr=>∃k:Nat,k<=len/\i=.int .i64 k/\Ext w wr) (fun i _=>len - (intOf i).toNat)
 case atStart=>exact⟨0,Nat.zero_le _,rfl,Ext.refl _⟩
 case round =>
  obtain⟨k,hk,rfl,he⟩:=hrel
  by_cases hlt:k<len
  .
   obtain⟨b1,o1,rfl,_,c1⟩:=HA.out k hlt
   obtain⟨b2,o2,rfl,_,c2⟩:=HB.out k hlt
   obtain⟨x0,hx0,c10⟩:=c1 0 oM
   obtain⟨x1,hx1,c11⟩:=c1 1 oM
   obtain⟨y0,hy0,c20⟩:=c2 0 oM
   obtain⟨y1,hy1,c21⟩:=c2 1 oM
   obtain rfl:x0=y0:=by rw[hx0] at hy0;exact Option.some.inj hy0
   obtain rfl:x1=y1:=by rw[hx1] at hy1;exact Option.some.inj hy1
   have d0:=he.cell c10;have e0:=he.cell c20
   have d1:=he.cell c11;have e1:=he.cell c21
   simp only[Nat.add_zero] at d0 e0
   clear c1 c2 c10 c20 hx0 hy0 c11 c21 hx1 hy1
   go_wp2
   go_region_held3 (fun w'=>Ext wr w'/\w'.cell? ⟨b1,o1+k*2,none⟩=some (.int .i64 x0)/\w'.cell? ⟨b1,o1+k*2+1,none⟩=some (.int .i64 x1)/\w'.cell? ⟨b2,o2+k*2,none⟩=some (.int .i64 x0)/\w'.cell? ⟨b2,o2+k*2+1,none⟩=some (.int .i64 x1)) (first|exact⟨Ext.drew (Ext.refl _),d0,d1,e0,e1⟩|exact LV (S:=fun w'=>Ext wr w'/\w'.cell? ⟨b1,o1+k*2,none⟩=some (.int .i64 x0)/\w'.cell? ⟨b1,o1+k*2+1,none⟩=some (.int .i64 x1)/\w'.cell? ⟨b2,o2+k*2,none⟩=some (.int .i64 x0)/\w'.cell? ⟨b2,o2+k*2+1,none⟩=some (.int .i64 x1)) (by assumption) hx (fun a b h x=>⟨h.1.trans x,(h.1.trans x).cell d0,(h.1.trans x).cell d1,(h.1.trans x).cell e0,(h.1.trans x).cell e1⟩)) ((go_at_call 398;refine(cB7 _ _ _).mono ?_;rintro e w' ⟨rfl,hx⟩))
   go_wp2
   go_roundw
   case rel=>exact⟨k+1,by omega,by go_num,he.trans (And.left ‹_›)⟩
   case measure=>simp[intOf];omega
  go_wp2
  go_ret
  exact⟨rfl,he⟩
theorem aT4(w:World)(B:Nat)(v:Value)(xs:List Int)(L:Nat)(hL:xs.length=L*2)(q:Int)(h:Ba B 286 2 w v xs)(h0:0<=q)(h1:q+(L*2:Nat)<=4611686018427387904):Calls Tryz.prog 345 #[v,.int .i64 q] w (IX w (Ep [v]) (.int .i64 (q+(L*2:Nat))) fun w'=>Ba B 286 2 w' v (run q (L*2))):=by
 obtain⟨a,len,ca,rfl,hl,hca,hm,hop⟩:=Own.open_ h
 rw[List.length_map] at hl
 obtain rfl:L=len:=by omega
 unfold maxLen at hm
 rcases hop with h00|⟨g,cur0,rfl,hB,hb0,hs0,-⟩
 .
  subst h00
  have hfin:Ba B 286 2 w (.slice a 0 ca) (run q (0*2)):=by
   refine Own.empty h ?_ _ ?_
   .
    exact List.eq_nil_of_length_eq_zero (by simpa using hL)
   simp[run]
  have HF:=Lib.hid hfin
  clear hfin h hL hl
  have hq:q+((0*2:Nat):Int)=q:=by simp
  rw[hq]
  clear hq
  go_enter Tryz.func345,Tryz.ntmps345
  go_wp2
  go_loopw [1,5] (fun kk i wr=>kk=.int .i64 q/\i=.int .i64 0/\wr=w) (fun _ _ _=>0)
  case atStart=>exact⟨rfl,rfl,rfl⟩
  case round =>
   obtain⟨rfl,rfl,rfl⟩:=hrel
   go_wp2
   go_ret
   exact⟨rfl,Upd.refl _ _,HF.out⟩
 have HS:=Lib.hid hs0
 have HC:=Lib.hid (show L*2<=ca*2 by have:=Nat.mul_le_mul_right 2 hca;omega)
 clear hs0 hL hl h
 go_enter Tryz.func345,Tryz.ntmps345
 go_wp2
 go_loopw [1,5] (fun kk i wr=>∃k:Nat,k<=L/\i=.int .i64 k/\(∃q':Int,q'=q+(k*2:Nat)/\kk=.int .i64 q')/\Upd w wr [g]/\∃cur,Blk wr g 286 cur/\cur.size=ca*2/\Pre cur (k*2) ((run q (L*2)).map (.int .i64))) (fun _ i _=>L - (intOf i).toNat)
 case atStart=>exact⟨0,Nat.zero_le _,rfl,⟨q,by simp,rfl⟩,Upd.refl _ _,cur0,hb0,HS.out,by simpa using Pre.zero _ _⟩
 case round =>
  obtain⟨k,hk,rfl,⟨q',hq',rfl⟩,he,cur,hblk,hsz,hpre⟩:=hrel
  clear HS
  have HS:=Lib.hid hsz
  have HQ:=Lib.hid hq'
  by_cases hlt:k<L
  .
   have hq1:0<=q'/\q'+2<=4611686018427387904:=by have:=Av hlt 2;omega
   obtain⟨hq1,hq2⟩:=hq1
   clear hsz hq'
   obtain⟨z0,g0⟩:∃z,wr.cell? ⟨g,k*2,none⟩=some z:=⟨_,by rw[hblk.cell];exact Array.getElem?_eq_getElem (by have:=HS.out;have:=HC.out;have:=Av hlt 2;omega)⟩
   have f0:=hblk.frozen (k*2)
   obtain⟨z1,g1⟩:∃z,wr.cell? ⟨g,k*2+1,none⟩=some z:=⟨_,by rw[hblk.cell];exact Array.getElem?_eq_getElem (by have:=HS.out;have:=HC.out;have:=Av hlt 2;omega)⟩
   have f1:=hblk.frozen (k*2+1)
   go_wp2
   go_roundw
   case rel=>exact⟨k+1,by omega,by go_num,⟨_,by have:=HQ.out;omega,rfl⟩,((he.setCell (by simp) _).setCell (by simp) _),_,((hblk.set_ _ _).set_ _ _),by simp;exact HS.out,(((hpre.set (aP (by have:=Av hlt 2;omega) (by have:=HQ.out;omega)) (by have:=HS.out;have:=Av hlt 2;have:=HC.out;omega)).set (aP (by have:=Av hlt 2;omega) (by have:=HQ.out;omega)) (by have:=HS.out;have:=Av hlt 2;have:=HC.out;simp;omega))).cast oM⟩
   case measure=>simp[intOf];omega
  obtain rfl:k=L:=by omega
  clear hsz hq'
  go_wp2
  go_ret
  refine⟨congrArg (fun z=>Ending.returned (.int .i64 z)) HQ.out,he,Own.of_blk hblk hB HS.out (by simp[GR]) hca (by unfold maxLen;omega) hpre⟩
theorem aT5(w:World)(x0 x1 x2 x3 x4:Int):Calls Tryz.prog 127 #[.agg #[.int .i64 x0,.int .i64 x1,.int .i64 x2,.int .i64 x3,.int .i64 x4]] w (Fz w (.agg #[.int .i64 x0,.int .i64 x1,.int .i64 x2,.int .i64 x3,.int .i64 x4])):=by
 go_enter Tryz.func127,Tryz.ntmps127
 go_wp2
 refine bodyPost_ret (v:=.agg #[.int .i64 x0,.int .i64 x1,.int .i64 x2,.int .i64 x3,.int .i64 x4]) (by simp[results,Tryz.results127,go_sem]) rfl ⟨rfl,?_⟩
 exact xT
theorem ZQ(w:World)(x0 x1 x2 x3 x4:Int):Calls Tryz.prog 148 #[.agg #[.int .i64 x0,.int .i64 x1,.int .i64 x2,.int .i64 x3,.int .i64 x4],.agg #[.int .i64 x0,.int .i64 x1,.int .i64 x2,.int .i64 x3,.int .i64 x4]] w (Fz w (.bool true)):=by
 go_enter Tryz.func148,Tryz.ntmps148
 go_wp2
 repeat (go_quiet (fail);go_wp2)
 go_ret
 exact⟨rfl,xT⟩
theorem cB8(w:World)(x0 x1 x2 x3:Int):Calls Tryz.prog 227 #[.agg #[.int .i64 x0,.int .i64 x1,.int .i64 x2,.int .i64 x3]] w (Fz w (.agg #[.int .i64 x0,.int .i64 x1,.int .i64 x2,.int .i64 x3])):=by
 go_enter Tryz.func227,Tryz.ntmps227
 go_wp2
 refine bodyPost_ret (v:=.agg #[.int .i64 x0,.int .i64 x1,.int .i64 x2,.int .i64 x3]) (by simp[results,Tryz.results227,go_sem]) rfl ⟨rfl,?_⟩
 exact xT
theorem cB9(w:World)(x0 x1 x2 x3:Int):Calls Tryz.prog 248 #[.agg #[.int .i64 x0,.int .i64 x1,.int .i64 x2,.int .i64 x3],.agg #[.int .i64 x0,.int .i64 x1,.int .i64 x2,.int .i64 x3]] w (Fz w (.bool true)):=by
 go_enter Tryz.func248,Tryz.ntmps248
 go_wp2
 repeat (go_quiet (fail);go_wp2)
 go_ret
 exact⟨rfl,xT⟩
theorem aM6:(Tryz.prog.info? 62).map (fun i=>(i.zero,i.size,i.bytes))=some (some (.slice none 0 0),1,24):=by kernel_rfl
theorem aT6:(Tryz.prog.info? 312).map (fun i=>(i.zero,i.size,i.bytes))=some (some (.agg #[.int .i64 0,.slice none 0 0]),2,32):=by kernel_rfl
theorem bN3:(Tryz.prog.info? 255).map (fun i=>(i.zero,i.size,i.bytes))=some (some (.agg #[.int .i64 0,.int .i64 0,.slice none 0 0]),3,40):=by kernel_rfl
theorem bD4(w:World)(c0:Int)(s1:Value)(d1:List Int)(L1:Nat)(hL1:d1.length=L1)(h1:Aw 1 w s1 d1)(hs1:L1<=1048576):Calls Tryz.prog 333 #[.agg #[.int .i64 c0,s1]] w (Ret w fun v w'=>∃t1:Value,v=.agg #[.int .i64 c0,t1]/\Ba w.heap.size 2 1 w' t1 d1):=by
 go_enter Tryz.func333,Tryz.ntmps333
 go_wp2_with (first|(go_at_call 48;refine(RH _ s1 d1 L1 oM (h1.ext xT) hs1).mono ?_;rintro e w1 ⟨t1,rfl,hx1,g1⟩;obtain⟨ta1,tn1,tc1,rfl⟩:=g1.shape;have hz1:=hx1.size;obtain⟨hc1,hf1⟩:=hx1.cells;(repeat (first|simp only[World.size_alloc] at hz1 hc1 hf1 g1|simp only[World.size_setCell] at hz1 hc1 hf1 g1));have JJ:w.heap.size<w1.heap.size:=oM;have PP:w.heap.size+1<w1.heap.size:=oM;have aC9:w.heap.size+1+1<w1.heap.size:=oM))
 refine bodyPost_ret (v:=.agg #[.int .i64 c0,.slice ta1 tn1 tc1]) ?_ rfl ?_
 .
  simp[results,Tryz.results333,go_sem, *]
 refine⟨_,rfl,?_,_,rfl,(g1.keep ?_).mono ?_⟩
 all_goals clear hc1 hf1
 .
  exact xT
 .
  repeat' (first|(with_reducible exact Chg.refl _ _)|(with_reducible refine Chg.drewN ?_ _)|(with_reducible refine Chg.drew ?_)|(with_reducible refine Chg.alloc ?_ _)|(with_reducible refine Chg.setLow ?_ ?_ _)|(with_reducible refine Chg.ext ?_ (by assumption))|omega)
 omega
theorem bD5(w:World)(c0:Int)(s1:Value)(d1:List Int)(L1:Nat)(hL1:d1.length=L1)(left:Int)(h1:Aw 1 w s1 d1)(hb0:0<=left)(hb1:left<=1048576):Calls Tryz.prog 301 #[.agg #[.int .i64 c0,s1],.int .i64 left] w (Ret w fun v' _=>SzR left (L1) v'):=by
 go_enter Tryz.func301,Tryz.ntmps301
 go_wp2_with (first|(go_at_call 38;refine(RI _ s1 d1 L1 oM _ (h1.ext xT) oM oM).mono ?_;rintro e w1 ⟨v1,rfl,hx1,hv⟩;have hz1:=hx1.size;obtain⟨hc1,hf1⟩:=hx1.cells;(repeat (first|simp only[World.size_alloc] at hz1 hc1 hf1|simp only[World.size_setCell] at hz1 hc1 hf1));have JJ:w.heap.size<w1.heap.size:=oM;rcases hv with⟨rfl,q1⟩|⟨rfl,q1⟩))
 all_goals
  go_ret
  refine⟨_,rfl,?_,?_⟩
  .
   exact xT
  first|exact .inl ⟨rfl,by omega⟩|(refine .inr ⟨congrArg (Value.int .i64) ?_,?_⟩ <;> omega)
theorem bD6(w:World)(c0:Int)(s1:Value)(t1:Value)(d1:List Int)(h1:Aw 1 w s1 d1)(k1:Aw 1 w t1 d1):Calls Tryz.prog 341 #[.agg #[.int .i64 c0,s1],.agg #[.int .i64 c0,t1]] w (Fz w (.bool true)):=by
 go_enter Tryz.func341,Tryz.ntmps341
 go_wp2_with (first|(go_at_call 17;refine(MB _ s1 t1 d1 (h1.ext xT) (k1.ext xT)).mono ?_;rintro e w1 ⟨rfl,hx1⟩;have hz1:=hx1.size;obtain⟨hc1,hf1⟩:=hx1.cells;(repeat (first|simp only[World.size_alloc] at hz1 hc1 hf1|simp only[World.size_setCell] at hz1 hc1 hf1));have JJ:w.heap.size<w1.heap.size:=oM;have PP:w.heap.size+1<w1.heap.size:=oM))
 go_ret
 refine⟨rfl,?_⟩
 exact xT
theorem cC0(w:World)(c0:Int)(c1:Int)(s2:Value)(d2:List Int)(L2:Nat)(hL2:d2.length=L2)(h2:Aw 1 w s2 d2)(hs2:L2<=1048576):Calls Tryz.prog 235 #[.agg #[.int .i64 c0,.int .i64 c1,s2]] w (Ret w fun v w'=>∃t2:Value,v=.agg #[.int .i64 c0,.int .i64 c1,t2]/\Ba w.heap.size 2 1 w' t2 d2):=by
 go_enter Tryz.func235,Tryz.ntmps235
 go_wp2_with (first|(go_at_call 48;refine(RH _ s2 d2 L2 oM (h2.ext xT) hs2).mono ?_;rintro e w1 ⟨t2,rfl,hx1,g2⟩;obtain⟨ta2,tn2,tc2,rfl⟩:=g2.shape;have hz1:=hx1.size;obtain⟨hc1,hf1⟩:=hx1.cells;(repeat (first|simp only[World.size_alloc] at hz1 hc1 hf1 g2|simp only[World.size_setCell] at hz1 hc1 hf1 g2));have JJ:w.heap.size<w1.heap.size:=oM;have PP:w.heap.size+1<w1.heap.size:=oM;have aC9:w.heap.size+1+1<w1.heap.size:=oM))
 refine bodyPost_ret (v:=.agg #[.int .i64 c0,.int .i64 c1,.slice ta2 tn2 tc2]) ?_ rfl ?_
 .
  simp[results,Tryz.results235,go_sem, *]
 refine⟨_,rfl,?_,_,rfl,(g2.keep ?_).mono ?_⟩
 all_goals clear hc1 hf1
 .
  exact xT
 .
  repeat' (first|(with_reducible exact Chg.refl _ _)|(with_reducible refine Chg.drewN ?_ _)|(with_reducible refine Chg.drew ?_)|(with_reducible refine Chg.alloc ?_ _)|(with_reducible refine Chg.setLow ?_ ?_ _)|(with_reducible refine Chg.ext ?_ (by assumption))|omega)
 omega
theorem cC1(w:World)(c0:Int)(c1:Int)(s2:Value)(d2:List Int)(L2:Nat)(hL2:d2.length=L2)(left:Int)(h2:Aw 1 w s2 d2)(hb0:0<=left)(hb1:left<=1048576):Calls Tryz.prog 206 #[.agg #[.int .i64 c0,.int .i64 c1,s2],.int .i64 left] w (Ret w fun v' _=>SzR left (L2) v'):=by
 go_enter Tryz.func206,Tryz.ntmps206
 go_wp2_with (first|(go_at_call 38;refine(RI _ s2 d2 L2 oM _ (h2.ext xT) oM oM).mono ?_;rintro e w1 ⟨v1,rfl,hx1,hv⟩;have hz1:=hx1.size;obtain⟨hc1,hf1⟩:=hx1.cells;(repeat (first|simp only[World.size_alloc] at hz1 hc1 hf1|simp only[World.size_setCell] at hz1 hc1 hf1));have JJ:w.heap.size<w1.heap.size:=oM;rcases hv with⟨rfl,q1⟩|⟨rfl,q1⟩))
 all_goals
  go_ret
  refine⟨_,rfl,?_,?_⟩
  .
   exact xT
  first|exact .inl ⟨rfl,by omega⟩|(refine .inr ⟨congrArg (Value.int .i64) ?_,?_⟩ <;> omega)
theorem cC2(w:World)(c0:Int)(c1:Int)(s2:Value)(t2:Value)(d2:List Int)(h2:Aw 1 w s2 d2)(k2:Aw 1 w t2 d2):Calls Tryz.prog 256 #[.agg #[.int .i64 c0,.int .i64 c1,s2],.agg #[.int .i64 c0,.int .i64 c1,t2]] w (Fz w (.bool true)):=by
 go_enter Tryz.func256,Tryz.ntmps256
 go_wp2_with (first|(go_at_call 17;refine(MB _ s2 t2 d2 (h2.ext xT) (k2.ext xT)).mono ?_;rintro e w1 ⟨rfl,hx1⟩;have hz1:=hx1.size;obtain⟨hc1,hf1⟩:=hx1.cells;(repeat (first|simp only[World.size_alloc] at hz1 hc1 hf1|simp only[World.size_setCell] at hz1 hc1 hf1));have JJ:w.heap.size<w1.heap.size:=oM;have PP:w.heap.size+1<w1.heap.size:=oM))
 go_ret
 refine⟨rfl,?_⟩
 exact xT
theorem XA{r:wK}{t:Value}{j:Nat}{u:Int}(h:r.1[j]?=some u):(DV (r,t))[j]?=some (.int .i64 u):=by
 have hj:j<r.1.length:=(List.getElem?_eq_some_iff.1 h).1
 simp only[DV]
 rw[List.getElem?_append_left (by simpa using hj),List.getElem?_map,h];rfl
theorem ZR{r:wK}{t:Value}{n:Nat}(h:r.1.length=n):(DV (r,t))[n]?=some t:=by
 simp only[DV]
 rw[List.getElem?_append_right (by simp[h])];simp[h]
theorem UG{rows:List wK}{ss:List Value}{N j:Nat}{u:Value}(r:wK)(t:Value)(h:(AS rows ss).length=N)(hj:(DV (r,t))[j]?=some u):(AS rows ss++DV (r,t))[N+j]?=some u:=by
 rw[List.getElem?_append_right oM,h,Nat.add_sub_cancel_left];exact hj
theorem VF{rows:List wK}{ss:List Value}{N:Nat}{u:Value}(r:wK)(t:Value)(h:(AS rows ss).length=N)(hj:(DV (r,t))[0]?=some u):(AS rows ss++DV (r,t))[N]?=some u:=UG r t h hj
theorem aM7(w:World)(v:Value)(rows:List wK)(h:Ll 0 w v rows)(hs:Mj rows<=1048576):Calls Tryz.prog 228 #[v] w (Ret w fun v' w'=>DZ w.heap.size 62 2 0 w' v' rows):=by
 have hwid:=h.1
 obtain⟨a,ca,rfl,hca,hm,ha⟩:=h.open_
 have HA:=Lib.hid ha;have HW:=Lib.hid hwid;have HZ:=Lib.hid hs
 have hL:rows.length<=1048576:=by unfold Mj at hs;omega
 clear ha h hwid hs
 unfold maxLen at hm
 obtain⟨i0,hi,hz0,hz1,hz2⟩:=info_parts aM6
 go_enter Tryz.func228,Tryz.ntmps228
 have hmk:=fun W=>run_make (P:=Tryz.prog) W 22 62 i0 _ Tryz.underlying22 hi hz0 .i64 .i64 rows.length rows.length oM oM (by rw[hz2];omega) oM
 simp only[Int.toNat_natCast,hz1] at hmk
 go_wp2
 clear hmk
 go_loopw [4] (fun i wr=>∃k:Nat,k<=rows.length/\i=.int .i64 k/\Ext w wr/\∃cur ss,Blk wr w.heap.size 62 cur/\cur.size=rows.length*1/\ss.length=k/\Pre cur (k) (AS (rows.take k) ss)/\MH (w.heap.size+1) 2 wr (.slice (some ⟨w.heap.size,0,none⟩) rows.length rows.length) (rows.take k) ss) (fun i _=>rows.length - (intOf i).toNat)
 case atStart=>exact⟨0,Nat.zero_le _,rfl,(Ext.refl _).alloc _,_,[],Blk.new _ _ _,by simp[size_madeCells],rfl,by simpa using Pre.zero _ _,⟨fun i s q h1=>by simp at h1,fun i j s t k _ h1=>by simp at h1,fun i s k h1=>by simp at h1⟩⟩
 case round =>
  obtain⟨k,hk,rfl,he,cur,ss,hblk,hsz,hssl,hpre,hinn⟩:=hrel
  by_cases hlt:k<rows.length
  .
   obtain⟨r,b1,o1,s,hr,rfl,_,hci,hcs,hin0⟩:=HA.out k hlt
   have hrw:=HW.out r (List.mem_of_getElem? hr)
   have d0:=he.cell hcs
   simp only[Nat.add_zero,Nat.zero_add,Nat.mul_one] at d0
   have hin:=hin0.ext he
   obtain⟨sa,sn,sc,rfl⟩:=hin.shape
   have HR:=Lib.hid (RG HZ.out hr)
   have HS:=Lib.hid hsz;have HRW:=Lib.hid hrw;have HK:=Lib.hid hr
   have hlen:(AS (rows.take k) ss).length=k:=by rw[CO (ZM HW.out k) (by simp;omega)];simp;omega
   have HL:=Lib.hid hlen;have HSS:=Lib.hid hssl
   clear hlen hssl
   clear hci hcs hrw hr hsz hin0
   go_wp2_with (first|(go_at_call 48;refine(RH _ _ r.2 r.2.length oM (hin.ext xT) HR.out).mono ?_;rintro e w1 ⟨t,rfl,hx,hg⟩;obtain⟨ta,tn,tc,rfl⟩:=hg.shape;have hb1:=hblk.ext hx;obtain⟨z0,g0⟩:∃z,w1.cell? ⟨w.heap.size,k,none⟩=some z:=⟨_,by rw[hb1.cell];exact Array.getElem?_eq_getElem (by have:=HS.out;omega)⟩;have f0:=hb1.frozen (k)))
   have hlen:=HL.out;have hssl:=HSS.out
   go_roundw
   case rel =>
    refine⟨k+1,by omega,by go_num,((he.trans hx).setCell (Nat.le_refl _) _),_,ss++[.slice ta tn tc],(hb1.set_ _ _),by simpa using HS.out,by simp;omega,?_,?_⟩
    .
     rw[IS HK.out,PV (by simp;omega)]
     refine(((hpre.app (Nat.le_of_eq hlen.symm)).set (VF r (.slice ta tn tc) hlen (ZR HRW.out)) (by have:=HS.out;omega))).cast ?_
     rfl
    rw[IS HK.out]
    have hi1:=(hinn.ext hx)
    refine(MH.snoc hi1 (by simp;omega) (hg.mono (by have:=he.size;have:=hblk.lt;omega)) (fun i s' k' h1 h2 h3=>?_) (fun k' h2 h3=>?_)).keep ((Chg.refl _ _).setLow oM _)
    .
     have hli:i<(rows.take k).length:=by
      have:i<ss.length:=(List.getElem?_eq_some_iff.1 h1).1
      simp;omega
     have h4:=(hinn.own i s' _ h1 (List.getElem?_eq_getElem hli)).foot k' h2
     have h5:=hg.foot k' h3
     omega
    have h5:=hg.foot k' h2
    have:=hblk.lt
    simp[Ep,Value.ownBlock] at h3
    omega
   case measure=>simp[intOf];omega
  obtain rfl:k=rows.length:=by omega
  go_wp2
  go_ret
  rw[List.take_length] at hpre hinn
  exact⟨_,rfl,he,ss,HW.out,hssl,Own.of_blk hblk (Nat.le_refl _) hsz (CO HW.out hssl) (Nat.le_refl _) (by unfold maxLen;omega) (hpre.cast (by simp)),hinn.mono oM⟩
theorem aM8(w:World)(va vb:Value)(rows:List wK)(ha:Ll 0 w va rows)(hb:Ll 0 w vb rows):Calls Tryz.prog 249 #[va,vb] w (Fz w (.bool true)):=by
 have hwid:=ha.1
 obtain⟨a,ca,rfl,hca,hm,ha'⟩:=ha.open_
 obtain⟨b,cb,rfl,_,_,hb'⟩:=hb.open_
 have HA:=Lib.hid ha';have HB:=Lib.hid hb';have HW:=Lib.hid hwid
 clear ha' hb' ha hb hwid
 unfold maxLen at hm
 go_enter Tryz.func249,Tryz.ntmps249
 go_wp2
 go_loopw [5] (fun i wr=>∃k:Nat,k<=rows.length/\i=.int .i64 k/\Ext w wr) (fun i _=>rows.length - (intOf i).toNat)
 case atStart=>exact⟨0,Nat.zero_le _,rfl,Ext.refl _⟩
 case round =>
  obtain⟨k,hk,rfl,he⟩:=hrel
  by_cases hlt:k<rows.length
  .
   obtain⟨r,b1,o1,s,hr,rfl,_,hci,hcs,hin0⟩:=HA.out k hlt
   obtain⟨r2,b2,o2,t,hr2,rfl,_,hci2,hcs2,hin2⟩:=HB.out k hlt
   obtain rfl:r=r2:=by rw[hr] at hr2;exact Option.some.inj hr2
   have hrw:=HW.out r (List.mem_of_getElem? hr)
   have d0:=he.cell hcs
   simp only[Nat.add_zero,Nat.zero_add,Nat.mul_one] at d0
   have d02:=he.cell hcs2
   simp only[Nat.add_zero,Nat.zero_add,Nat.mul_one] at d02
   have g1:=hin0.ext he;have g2:=hin2.ext he
   obtain⟨sa,sn,sc,rfl⟩:=g1.shape;obtain⟨ta,tn,tc,rfl⟩:=g2.shape
   clear hci hcs hci2 hcs2 hrw hr hr2 hin0 hin2 
   go_wp2
   go_region_held3 (fun w'=>Ext wr w'/\w'.cell? ⟨b1,o1+k,none⟩=some (.slice sa sn sc)/\w'.cell? ⟨b2,o2+k,none⟩=some (.slice ta tn tc)) (first|exact⟨Ext.drew (Ext.refl _),d0,d02⟩|exact LV (S:=fun w'=>Ext wr w'/\w'.cell? ⟨b1,o1+k,none⟩=some (.slice sa sn sc)/\w'.cell? ⟨b2,o2+k,none⟩=some (.slice ta tn tc)) (by assumption) hx (fun a b h x=>⟨h.1.trans x,(h.1.trans x).cell d0,(h.1.trans x).cell d02⟩)) ((go_at_call 17;refine(MB _ _ _ r.2 (g1.ext (And.left ‹_›)) (g2.ext (And.left ‹_›))).mono ?_;rintro e w' ⟨rfl,hx⟩))
   go_wp2
   go_roundw
   case rel=>exact⟨k+1,by omega,by go_num,he.trans (And.left ‹_›)⟩
   case measure=>simp[intOf];omega
  go_wp2
  go_ret
  exact⟨rfl,he⟩
theorem aM9(w:World)(v:Value)(rows:List wK)(left:Int)(h:Ll 0 w v rows)(h0:0<=left)(h1:left<=1048576):Calls Tryz.prog 201 #[v,.int .i64 left] w (Ret w fun v' _=>SzR left (Mj rows) v'):=by
 have hwid:=h.1
 obtain⟨a,ca,rfl,hca,hm,ha⟩:=h.open_
 have HA:=Lib.hid ha;have HW:=Lib.hid hwid
 clear ha h hwid
 unfold maxLen at hm
 by_cases hlt:left<rows.length
 .
  have ht:decide (left - (rows.length:Int)<0)=true:=by simp;omega
  go_enter Tryz.func201,Tryz.ntmps201
  go_wp2
  go_ret
  exact⟨_,rfl,Ext.refl _,.inl ⟨rfl,by unfold Mj;omega⟩⟩
 have ht:decide (left - (rows.length:Int)<0)=false:=by simp;omega
 go_enter Tryz.func201,Tryz.ntmps201
 go_wp2
 clear ht
 go_loopw [1,5] (fun lv i wr=>∃k:Nat,k<=rows.length/\i=.int .i64 k/\(∃z:Int,z=left - rows.length - (((rows.take k).map (fun r=>r.2.length)).sum:Nat)/\0<=z/\lv=.int .i64 z)/\Ext w wr) (fun _ i _=>rows.length - (intOf i).toNat)
 case atStart=>exact⟨0,Nat.zero_le _,rfl,⟨_,by simp,by omega,rfl⟩,Ext.refl _⟩
 case round =>
  obtain⟨k,hk,rfl,⟨z,hz,hz0,rfl⟩,he⟩:=hrel
  have HZ:=Lib.hid hz;
  by_cases hlt:k<rows.length
  .
   obtain⟨r,b1,o1,s,hr,rfl,_,hci,hcs,hin0⟩:=HA.out k hlt
   have hrw:=HW.out r (List.mem_of_getElem? hr)
   have d0:=he.cell hcs
   simp only[Nat.add_zero,Nat.zero_add,Nat.mul_one] at d0
   have hin:=hin0.ext he
   obtain⟨sa,sn,sc,rfl⟩:=hin.shape
   have HK:=Lib.hid hr
   have hz1:z<=1048576:=by omega
   clear hci hcs hrw hr hin0 hz 
   go_wp2_with (first|(go_at_call 38;refine(RI _ _ r.2 r.2.length oM _ (hin.ext xT) oM oM).mono ?_;rintro e w1 ⟨v1,rfl,hx,hv⟩;rcases hv with⟨rfl,q1⟩|⟨rfl,q1⟩))
   .
    go_ret
    refine⟨_,rfl,he.trans xT,.inl ⟨rfl,?_⟩⟩
    have h2:=II HK.out;have h3:=PW rows (k+1);have h4:=HZ.out
    unfold Mj;omega
   go_roundw
   case rel =>
    have h2:=II HK.out;have h4:=HZ.out
    exact⟨k+1,by omega,by go_num,⟨_,by omega,by omega,rfl⟩,he.trans xT⟩
   case measure=>simp[intOf];omega
  obtain rfl:k=rows.length:=by omega
  clear hz
  go_wp2
  go_ret
  have h4:=HZ.out
  rw[List.take_length] at h4
  refine⟨_,rfl,he,.inr ⟨congrArg (Value.int .i64) ?_,?_⟩⟩ <;> (unfold Mj;omega)
theorem aD4(w:World)(B:Nat)(v:Value)(rows:List wK)(ss:List Value)(q:Int)(h:Px B 62 2 0 w v rows ss)(h0:0<=q)(h1:q+(tot 0 rows:Nat)<=4611686018427387904):Calls Tryz.prog 259 #[v,.int .i64 q] w (IX w (Ep (v::ss)) (.int .i64 (q+(tot 0 rows:Nat))) fun w'=>Px B 62 2 0 w' v (FQ 0 q rows) ss):=by
 obtain⟨a,len,ca,rfl,hlen,hca,hm⟩:∃a len ca,v=.slice a len ca/\rows.length=len/\len<=ca/\ca<=maxLen:=by
  obtain⟨a,len,cap,h2,h3,h4,h5,_⟩:=Own.open_ h.2.2.1
  rw[CO h.1 h.2.1] at h3
  exact⟨a,len,cap,h2,Nat.eq_of_mul_eq_mul_right oM h3,h4,h5⟩
 subst hlen
 have hssl:=h.2.1
 have HO:=Lib.hid h
 clear h
 unfold maxLen at hm
 go_enter Tryz.func259,Tryz.ntmps259
 go_wp2
 go_loopw [1,5] (fun kk i wr=>∃k:Nat,k<=rows.length/\i=.int .i64 k/\(∃q':Int,q'=q+(tot 0 (rows.take k):Nat)/\kk=.int .i64 q')/\Upd w wr (Ep (.slice a rows.length ca::ss))/\Px B 62 2 0 wr (.slice a rows.length ca) ((FQ 0 q rows).take k++rows.drop k) ss) (fun _ i _=>rows.length - (intOf i).toNat)
 case atStart=>exact⟨0,Nat.zero_le _,rfl,⟨q,by simp[tot],rfl⟩,Upd.refl _ _,by simpa using HO.out⟩
 case round =>
  obtain⟨k,hk,rfl,⟨q',hq',rfl⟩,he,hown⟩:=hrel
  by_cases hlt:k<rows.length
  .
   have hr:rows[k]?=some rows[k]:=List.getElem?_eq_getElem hlt
   have hml:=KH 0 q rows
   have hmx:=aI0 hml hr
   obtain⟨s,hs⟩:∃s,ss[k]?=some s:=⟨_,List.getElem?_eq_getElem oM⟩
   obtain⟨L,hLr⟩:∃L,L=(rows[k]).2.length:=⟨_,rfl⟩
   have hm0:=WZ (n:=0) (q:=q) hr
   rw[<-hq',<-hLr] at hm0
   have hstep:=ZO hml hm0
   have ht1:=ZN (n:=0) hr
   have ht2:=aT3 (n:=0) rows (k+1)
   rw[<-hLr] at ht1
   have hq0:0<=q'/\q'+0+L<=4611686018427387904:=by omega
   obtain⟨hq1,hq2⟩:=hq0
   have hsown:Ba B 2 1 wr s (rows[k]).2:=hown.2.2.2.own k s _ hs hmx
   obtain⟨sa,sn,sc,rfl⟩:=hsown.shape
   obtain⟨a',len',cap',hv,hcl,hc1,hc2,hcase⟩:=Own.open_ hown.2.2.1
   injection hv with hv1 hv2 hv3
   subst hv1;subst hv2;subst hv3
   have hnl:=CO hown.1 (by rw[hown.2.1])
   rcases hcase with hz|⟨g,cur,rfl,hBg,hblk,hcsz,hpre⟩
   .
    omega
   have hcell_s:cur[k]?=some (.slice sa sn sc):=by
    have h5:=QS hown.1 hmx hs
    rw[<-h5]
    have:=Av hlt 1
    simpa using hpre k oM
   have HC:=Lib.hid hc1
   have d0:wr.cell? ⟨g,k,none⟩=some (.slice sa sn sc):=by rw[hblk.cell];exact hcell_s
   have HQ:=Lib.hid hq';have HT:=Lib.hid ht1;have HH:=Lib.hid hown;have HST:=Lib.hid hstep;have HMX:=Lib.hid hmx;have HSS:=Lib.hid hs;have HLR:=Lib.hid hLr;have HCS:=Lib.hid hcsz;have HPRE:=Lib.hid hpre
   clear hm0 hq' ht1 ht2 hr hml hmx hs hstep hown hcell_s hcl hnl hLr hcsz hpre
   go_wp2_with (first|(go_at_call 19;refine(OQ _ B _ _ L (by have:=HLR.out;omega) _ hsown oM oM).mono ?_;rintro e w1 ⟨rfl,hx,hg⟩))
   go_roundw
   case rel =>
    have h3:=HT.out;have h4:=HQ.out
    have hO:Px B 62 2 0 w1 (.slice (some ⟨g,0,none⟩) rows.length ca) ((FQ 0 q rows).take (k+1)++rows.drop (k+1)) ss:=by
     rw[HST.out]
     have h6:=HH.out.set_row HMX.out HSS.out hx (xs:=run (q') L) (by simpa using hg)
     have h7:((rows[k]).1:List Int)=[]:=List.eq_nil_of_length_eq_zero (by simpa using HO.out.1 _ (List.getElem_mem hlt))
     rw[h7] at h6
     simpa[run] using h6
    exact⟨k+1,by omega,by go_num,⟨_,by omega,rfl⟩,(he.trans (hx.more (fun x hx'=>OY HSS.out hx'))),hO⟩
   case measure=>simp[intOf];omega
  obtain rfl:k=rows.length:=by omega
  have HQ:=Lib.hid hq'
  clear hq'
  go_wp2
  go_ret
  have h4:=HQ.out
  rw[List.take_length] at h4
  refine⟨congrArg (fun z=>Ending.returned (.int .i64 z)) h4,he,?_⟩
  rw[List.drop_length,List.append_nil] at hown
  have:=KH 0 q rows
  rwa [List.take_of_length_le oM] at hown
theorem aT7(w:World)(v:Value)(rows:List wK)(h:Ll 1 w v rows)(hs:Mj rows<=1048576):Calls Tryz.prog 229 #[v] w (Ret w fun v' w'=>DZ w.heap.size 312 2 1 w' v' rows):=by
 have hwid:=h.1
 obtain⟨a,ca,rfl,hca,hm,ha⟩:=h.open_
 have HA:=Lib.hid ha;have HW:=Lib.hid hwid;have HZ:=Lib.hid hs
 have hL:rows.length<=1048576:=by unfold Mj at hs;omega
 clear ha h hwid hs
 unfold maxLen at hm
 obtain⟨i0,hi,hz0,hz1,hz2⟩:=info_parts aT6
 go_enter Tryz.func229,Tryz.ntmps229
 have hmk:=fun W=>run_make (P:=Tryz.prog) W 68 312 i0 _ Tryz.underlying68 hi hz0 .i64 .i64 rows.length rows.length oM oM (by rw[hz2];omega) oM
 simp only[Int.toNat_natCast,hz1] at hmk
 go_wp2
 clear hmk
 go_loopw [4] (fun i wr=>∃k:Nat,k<=rows.length/\i=.int .i64 k/\Ext w wr/\∃cur ss,Blk wr w.heap.size 312 cur/\cur.size=rows.length*2/\ss.length=k/\Pre cur (k*2) (AS (rows.take k) ss)/\MH (w.heap.size+1) 2 wr (.slice (some ⟨w.heap.size,0,none⟩) rows.length rows.length) (rows.take k) ss) (fun i _=>rows.length - (intOf i).toNat)
 case atStart=>exact⟨0,Nat.zero_le _,rfl,(Ext.refl _).alloc _,_,[],Blk.new _ _ _,by simp[size_madeCells],rfl,by simpa using Pre.zero _ _,⟨fun i s q h1=>by simp at h1,fun i j s t k _ h1=>by simp at h1,fun i s k h1=>by simp at h1⟩⟩
 case round =>
  obtain⟨k,hk,rfl,he,cur,ss,hblk,hsz,hssl,hpre,hinn⟩:=hrel
  by_cases hlt:k<rows.length
  .
   obtain⟨r,b1,o1,s,hr,rfl,_,hci,hcs,hin0⟩:=HA.out k hlt
   have hrw:=HW.out r (List.mem_of_getElem? hr)
   obtain⟨x0,hx0⟩:∃u,r.1[0]?=some u:=⟨_,List.getElem?_eq_getElem (by rw[hrw];decide)⟩
   have d0:=he.cell (hci 0 _ hx0)
   have d1:=he.cell hcs
   simp only[Nat.add_zero,Nat.reduceAdd] at d0 d1
   have hin:=hin0.ext he
   obtain⟨sa,sn,sc,rfl⟩:=hin.shape
   have HR:=Lib.hid (RG HZ.out hr)
   have HS:=Lib.hid hsz;have HRW:=Lib.hid hrw;have HK:=Lib.hid hr
   have hlen:(AS (rows.take k) ss).length=k*2:=by rw[CO (ZM HW.out k) (by simp;omega)];simp;omega
   have HL:=Lib.hid hlen;have HSS:=Lib.hid hssl
   clear hlen hssl
   have HX0:=Lib.hid hx0;clear hx0
   clear hci hcs hrw hr hsz hin0
   go_wp2_with (first|(go_at_call 333;refine(bD4 _ _ _ r.2 r.2.length oM (hin.ext xT) HR.out).mono ?_;rintro e w1 ⟨_,rfl,hx,t,rfl,hg⟩;obtain⟨ta,tn,tc,rfl⟩:=hg.shape;have hb1:=hblk.ext hx;obtain⟨z0,g0⟩:∃z,w1.cell? ⟨w.heap.size,k*2,none⟩=some z:=⟨_,by rw[hb1.cell];exact Array.getElem?_eq_getElem (by have:=HS.out;omega)⟩;have f0:=hb1.frozen (k*2);obtain⟨z1,g1⟩:∃z,w1.cell? ⟨w.heap.size,k*2+1,none⟩=some z:=⟨_,by rw[hb1.cell];exact Array.getElem?_eq_getElem (by have:=HS.out;omega)⟩;have f1:=hb1.frozen (k*2+1)))
   have hlen:=HL.out;have hssl:=HSS.out
   go_roundw
   case rel =>
    refine⟨k+1,by omega,by go_num,(((he.trans hx).setCell (Nat.le_refl _) _).setCell (Nat.le_refl _) _),_,ss++[.slice ta tn tc],((hb1.set_ _ _).set_ _ _),by simp;exact HS.out,by simp;omega,?_,?_⟩
    .
     rw[IS HK.out,PV (by simp;omega)]
     refine((((hpre.app (Nat.le_of_eq hlen.symm)).set (VF r (.slice ta tn tc) hlen (XA HX0.out)) (by have:=HS.out;omega)).set (UG r (.slice ta tn tc) hlen (ZR HRW.out)) (by have:=HS.out;simp;omega))).cast ?_
     omega
    rw[IS HK.out]
    have hi1:=(hinn.ext hx)
    refine(MH.snoc hi1 (by simp;omega) (hg.mono (by have:=he.size;have:=hblk.lt;omega)) (fun i s' k' h1 h2 h3=>?_) (fun k' h2 h3=>?_)).keep (((Chg.refl _ _).setLow oM _).setLow oM _)
    .
     have hli:i<(rows.take k).length:=by
      have:i<ss.length:=(List.getElem?_eq_some_iff.1 h1).1
      simp;omega
     have h4:=(hinn.own i s' _ h1 (List.getElem?_eq_getElem hli)).foot k' h2
     have h5:=hg.foot k' h3
     omega
    have h5:=hg.foot k' h2
    have:=hblk.lt
    simp[Ep,Value.ownBlock] at h3
    omega
   case measure=>simp[intOf];omega
  obtain rfl:k=rows.length:=by omega
  go_wp2
  go_ret
  rw[List.take_length] at hpre hinn
  exact⟨_,rfl,he,ss,HW.out,hssl,Own.of_blk hblk (Nat.le_refl _) hsz (CO HW.out hssl) (Nat.le_refl _) (by unfold maxLen;omega) hpre,hinn.mono oM⟩
theorem aT8(w:World)(va vb:Value)(rows:List wK)(ha:Ll 1 w va rows)(hb:Ll 1 w vb rows):Calls Tryz.prog 250 #[va,vb] w (Fz w (.bool true)):=by
 have hwid:=ha.1
 obtain⟨a,ca,rfl,hca,hm,ha'⟩:=ha.open_
 obtain⟨b,cb,rfl,_,_,hb'⟩:=hb.open_
 have HA:=Lib.hid ha';have HB:=Lib.hid hb';have HW:=Lib.hid hwid
 clear ha' hb' ha hb hwid
 unfold maxLen at hm
 go_enter Tryz.func250,Tryz.ntmps250
 go_wp2
 go_loopw [5] (fun i wr=>∃k:Nat,k<=rows.length/\i=.int .i64 k/\Ext w wr) (fun i _=>rows.length - (intOf i).toNat)
 case atStart=>exact⟨0,Nat.zero_le _,rfl,Ext.refl _⟩
 case round =>
  obtain⟨k,hk,rfl,he⟩:=hrel
  by_cases hlt:k<rows.length
  .
   obtain⟨r,b1,o1,s,hr,rfl,_,hci,hcs,hin0⟩:=HA.out k hlt
   obtain⟨r2,b2,o2,t,hr2,rfl,_,hci2,hcs2,hin2⟩:=HB.out k hlt
   obtain rfl:r=r2:=by rw[hr] at hr2;exact Option.some.inj hr2
   have hrw:=HW.out r (List.mem_of_getElem? hr)
   obtain⟨x0,hx0⟩:∃u,r.1[0]?=some u:=⟨_,List.getElem?_eq_getElem (by rw[hrw];decide)⟩
   have d0:=he.cell (hci 0 _ hx0)
   have d1:=he.cell hcs
   simp only[Nat.add_zero,Nat.reduceAdd] at d0 d1
   have d02:=he.cell (hci2 0 _ hx0)
   have d12:=he.cell hcs2
   simp only[Nat.add_zero,Nat.reduceAdd] at d02 d12
   have g1:=hin0.ext he;have g2:=hin2.ext he
   obtain⟨sa,sn,sc,rfl⟩:=g1.shape;obtain⟨ta,tn,tc,rfl⟩:=g2.shape
   clear hci hcs hci2 hcs2 hrw hr hr2 hin0 hin2 hx0
   go_wp2
   go_region_held3 (fun w'=>Ext wr w'/\w'.cell? ⟨b1,o1+k*2,none⟩=some (.int .i64 x0)/\w'.cell? ⟨b1,o1+k*2+1,none⟩=some (.slice sa sn sc)/\w'.cell? ⟨b2,o2+k*2,none⟩=some (.int .i64 x0)/\w'.cell? ⟨b2,o2+k*2+1,none⟩=some (.slice ta tn tc)) (first|exact⟨Ext.drew (Ext.refl _),d0,d1,d02,d12⟩|exact LV (S:=fun w'=>Ext wr w'/\w'.cell? ⟨b1,o1+k*2,none⟩=some (.int .i64 x0)/\w'.cell? ⟨b1,o1+k*2+1,none⟩=some (.slice sa sn sc)/\w'.cell? ⟨b2,o2+k*2,none⟩=some (.int .i64 x0)/\w'.cell? ⟨b2,o2+k*2+1,none⟩=some (.slice ta tn tc)) (by assumption) hx (fun a b h x=>⟨h.1.trans x,(h.1.trans x).cell d0,(h.1.trans x).cell d1,(h.1.trans x).cell d02,(h.1.trans x).cell d12⟩)) ((go_at_call 341;refine(bD6 _ _ _ _ r.2 (g1.ext (And.left ‹_›)) (g2.ext (And.left ‹_›))).mono ?_;rintro e w' ⟨rfl,hx⟩))
   go_wp2
   go_roundw
   case rel=>exact⟨k+1,by omega,by go_num,he.trans (And.left ‹_›)⟩
   case measure=>simp[intOf];omega
  go_wp2
  go_ret
  exact⟨rfl,he⟩
theorem aT9(w:World)(v:Value)(rows:List wK)(left:Int)(h:Ll 1 w v rows)(h0:0<=left)(h1:left<=1048576):Calls Tryz.prog 202 #[v,.int .i64 left] w (Ret w fun v' _=>SzR left (Mj rows) v'):=by
 have hwid:=h.1
 obtain⟨a,ca,rfl,hca,hm,ha⟩:=h.open_
 have HA:=Lib.hid ha;have HW:=Lib.hid hwid
 clear ha h hwid
 unfold maxLen at hm
 by_cases hlt:left<rows.length
 .
  have ht:decide (left - (rows.length:Int)<0)=true:=by simp;omega
  go_enter Tryz.func202,Tryz.ntmps202
  go_wp2
  go_ret
  exact⟨_,rfl,Ext.refl _,.inl ⟨rfl,by unfold Mj;omega⟩⟩
 have ht:decide (left - (rows.length:Int)<0)=false:=by simp;omega
 go_enter Tryz.func202,Tryz.ntmps202
 go_wp2
 clear ht
 go_loopw [1,5] (fun lv i wr=>∃k:Nat,k<=rows.length/\i=.int .i64 k/\(∃z:Int,z=left - rows.length - (((rows.take k).map (fun r=>r.2.length)).sum:Nat)/\0<=z/\lv=.int .i64 z)/\Ext w wr) (fun _ i _=>rows.length - (intOf i).toNat)
 case atStart=>exact⟨0,Nat.zero_le _,rfl,⟨_,by simp,by omega,rfl⟩,Ext.refl _⟩
 case round =>
  obtain⟨k,hk,rfl,⟨z,hz,hz0,rfl⟩,he⟩:=hrel
  have HZ:=Lib.hid hz;
  by_cases hlt:k<rows.length
  .
   obtain⟨r,b1,o1,s,hr,rfl,_,hci,hcs,hin0⟩:=HA.out k hlt
   have hrw:=HW.out r (List.mem_of_getElem? hr)
   obtain⟨x0,hx0⟩:∃u,r.1[0]?=some u:=⟨_,List.getElem?_eq_getElem (by rw[hrw];decide)⟩
   have d0:=he.cell (hci 0 _ hx0)
   have d1:=he.cell hcs
   simp only[Nat.add_zero,Nat.reduceAdd] at d0 d1
   have hin:=hin0.ext he
   obtain⟨sa,sn,sc,rfl⟩:=hin.shape
   have HK:=Lib.hid hr
   have hz1:z<=1048576:=by omega
   clear hci hcs hrw hr hin0 hz hx0
   go_wp2_with (first|(go_at_call 301;refine(bD5 _ _ _ r.2 r.2.length rfl _ (hin.ext xT) oM oM).mono ?_;rintro e w1 ⟨v1,rfl,hx,hv⟩;rcases hv with⟨rfl,q1⟩|⟨rfl,q1⟩))
   .
    go_ret
    refine⟨_,rfl,he.trans xT,.inl ⟨rfl,?_⟩⟩
    have h2:=II HK.out;have h3:=PW rows (k+1);have h4:=HZ.out
    unfold Mj;omega
   go_roundw
   case rel =>
    have h2:=II HK.out;have h4:=HZ.out
    exact⟨k+1,by omega,by go_num,⟨_,by omega,by omega,rfl⟩,he.trans xT⟩
   case measure=>simp[intOf];omega
  obtain rfl:k=rows.length:=by omega
  clear hz
  go_wp2
  go_ret
  have h4:=HZ.out
  rw[List.take_length] at h4
  refine⟨_,rfl,he,.inr ⟨congrArg (Value.int .i64) ?_,?_⟩⟩ <;> (unfold Mj;omega)
theorem aI2(w:World)(B:Nat)(v:Value)(rows:List wK)(ss:List Value)(q:Int)(h:Px B 312 2 1 w v rows ss)(h0:0<=q)(h1:q+(tot 1 rows:Nat)<=4611686018427387904):Calls Tryz.prog 260 #[v,.int .i64 q] w (IX w (Ep (v::ss)) (.int .i64 (q+(tot 1 rows:Nat))) fun w'=>Px B 312 2 1 w' v (FQ 1 q rows) ss):=by
 obtain⟨a,len,ca,rfl,hlen,hca,hm⟩:∃a len ca,v=.slice a len ca/\rows.length=len/\len<=ca/\ca<=maxLen:=by
  obtain⟨a,len,cap,h2,h3,h4,h5,_⟩:=Own.open_ h.2.2.1
  rw[CO h.1 h.2.1] at h3
  exact⟨a,len,cap,h2,Nat.eq_of_mul_eq_mul_right oM h3,h4,h5⟩
 subst hlen
 have hssl:=h.2.1
 have HO:=Lib.hid h
 clear h
 unfold maxLen at hm
 go_enter Tryz.func260,Tryz.ntmps260
 go_wp2
 go_loopw [1,5] (fun kk i wr=>∃k:Nat,k<=rows.length/\i=.int .i64 k/\(∃q':Int,q'=q+(tot 1 (rows.take k):Nat)/\kk=.int .i64 q')/\Upd w wr (Ep (.slice a rows.length ca::ss))/\Px B 312 2 1 wr (.slice a rows.length ca) ((FQ 1 q rows).take k++rows.drop k) ss) (fun _ i _=>rows.length - (intOf i).toNat)
 case atStart=>exact⟨0,Nat.zero_le _,rfl,⟨q,by simp[tot],rfl⟩,Upd.refl _ _,by simpa using HO.out⟩
 case round =>
  obtain⟨k,hk,rfl,⟨q',hq',rfl⟩,he,hown⟩:=hrel
  by_cases hlt:k<rows.length
  .
   have hr:rows[k]?=some rows[k]:=List.getElem?_eq_getElem hlt
   have hml:=KH 1 q rows
   have hmx:=aI0 hml hr
   obtain⟨s,hs⟩:∃s,ss[k]?=some s:=⟨_,List.getElem?_eq_getElem oM⟩
   obtain⟨L,hLr⟩:∃L,L=(rows[k]).2.length:=⟨_,rfl⟩
   have hm0:=WZ (n:=1) (q:=q) hr
   rw[<-hq',<-hLr] at hm0
   have hstep:=ZO hml hm0
   have ht1:=ZN (n:=1) hr
   have ht2:=aT3 (n:=1) rows (k+1)
   rw[<-hLr] at ht1
   have hq0:0<=q'/\q'+1+L<=4611686018427387904:=by omega
   obtain⟨hq1,hq2⟩:=hq0
   have hsown:Ba B 2 1 wr s (rows[k]).2:=hown.2.2.2.own k s _ hs hmx
   obtain⟨sa,sn,sc,rfl⟩:=hsown.shape
   obtain⟨a',len',cap',hv,hcl,hc1,hc2,hcase⟩:=Own.open_ hown.2.2.1
   injection hv with hv1 hv2 hv3
   subst hv1;subst hv2;subst hv3
   have hnl:=CO hown.1 (by rw[hown.2.1])
   rcases hcase with hz|⟨g,cur,rfl,hBg,hblk,hcsz,hpre⟩
   .
    omega
   have hcell_s:cur[k*2+1]?=some (.slice sa sn sc):=by
    have h5:=QS hown.1 hmx hs
    rw[<-h5]
    have:=Av hlt 2
    exact hpre _ oM
   have HC:=Lib.hid hc1
   have d1:wr.cell? ⟨g,k*2+1,none⟩=some (.slice sa sn sc):=by rw[hblk.cell];exact hcell_s
   obtain⟨z0,g0⟩:∃z,wr.cell? ⟨g,k*2,none⟩=some z:=⟨_,by rw[hblk.cell];exact Array.getElem?_eq_getElem (by have:=HC.out;have:=Av hlt 2;have:=hcsz;omega)⟩
   have f0:=hblk.frozen (k*2)
   have HQ:=Lib.hid hq';have HT:=Lib.hid ht1;have HH:=Lib.hid hown;have HST:=Lib.hid hstep;have HMX:=Lib.hid hmx;have HSS:=Lib.hid hs;have HLR:=Lib.hid hLr;have HCS:=Lib.hid hcsz;have HPRE:=Lib.hid hpre
   clear hm0 hq' ht1 ht2 hr hml hmx hs hstep hown hcell_s hcl hnl hLr hcsz hpre
   have o0:=HH.out;have m0:((FQ 1 q rows).take k++rows.drop k)[k]?=some ((rows[k]).1,(rows[k]).2):=HMX.out
   have hkl:k<((FQ 1 q rows).take k++rows.drop k).length:=(List.getElem?_eq_some_iff.1 m0).1
   have o1:Px B 312 2 1 (wr.setCell ⟨g,k*2,none⟩ (.int .i64 q')) (.slice (some ⟨g,0,none⟩) rows.length ca) (((FQ 1 q rows).take k++rows.drop k).set k (((rows[k]).1.set 0 (q')),(rows[k]).2)) ss:=by have h:=o0.set_int m0 (j:=0) oM (q');simpa[List.set_set] using h
   have m1:(((FQ 1 q rows).take k++rows.drop k).set k (((rows[k]).1.set 0 (q')),(rows[k]).2))[k]?=some (((rows[k]).1.set 0 (q')),(rows[k]).2):=by rw[List.getElem?_set_self hkl]
   have hso:Ba B 2 1 (wr.setCell ⟨g,k*2,none⟩ (.int .i64 q')) (.slice sa sn sc) (rows[k]).2:=o1.2.2.2.own k _ (((rows[k]).1.set 0 (q')),(rows[k]).2) HSS.out m1
   have hup:Upd wr (wr.setCell ⟨g,k*2,none⟩ (.int .i64 q')) (Ep ((.slice (some ⟨g,0,none⟩) rows.length ca)::ss)):=(((Upd.refl wr _)).setCell (by simp[Ep,Value.ownBlock]) _)
   have O:=Lib.hid o1;have MM:=Lib.hid m1;have HSO:=Lib.hid hso;have HUP:=Lib.hid hup;clear o0 m0 o1 m1 hso hup hsown
   go_wp2_with (first|(go_at_call 19;refine(OQ _ B _ _ L (by have:=HLR.out;omega) _ HSO.out oM oM).mono ?_;rintro e w1 ⟨rfl,hx,hg⟩))
   go_roundw
   case rel =>
    have h3:=HT.out;have h4:=HQ.out
    have hO:Px B 312 2 1 w1 (.slice (some ⟨g,0,none⟩) rows.length ca) ((FQ 1 q rows).take (k+1)++rows.drop (k+1)) ss:=by
     rw[HST.out]
     have h6:=O.out.set_row MM.out HSS.out hx (xs:=run (q'+1) L) (by simpa using hg)
     have h7:((rows[k]).1:List Int).length=1:=HO.out.1 _ (List.getElem_mem hlt)
     obtain⟨y0,h8⟩:∃y0,(rows[k]).1=[y0]:=by match (rows[k]).1,h7 with|[y0],_=>exact⟨y0,rfl⟩
     rw[h8] at h6
     simpa[run,List.set_set,Int.add_assoc] using h6
    exact⟨k+1,by omega,by go_num,⟨_,by omega,rfl⟩,(he.trans (HUP.out.trans (hx.more (fun x hx'=>OY HSS.out hx')))),hO⟩
   case measure=>simp[intOf];omega
  obtain rfl:k=rows.length:=by omega
  have HQ:=Lib.hid hq'
  clear hq'
  go_wp2
  go_ret
  have h4:=HQ.out
  rw[List.take_length] at h4
  refine⟨congrArg (fun z=>Ending.returned (.int .i64 z)) h4,he,?_⟩
  rw[List.drop_length,List.append_nil] at hown
  have:=KH 1 q rows
  rwa [List.take_of_length_le oM] at hown
theorem aN0(w:World)(s0:Value)(d0:List (List Int × List Int))(s1:Value)(d1:List (List Int × List Int))(left:Int)(h0:Ll 0 w s0 d0)(h1:Ll 1 w s1 d1)(hb0:0<=left)(hb1:left<=1048576):Calls Tryz.prog 101 #[.agg #[s0,s1],.int .i64 left] w (Ret w fun v' _=>SzR left (Mj d0+Mj d1) v'):=by
 go_enter Tryz.func101,Tryz.ntmps101
 go_wp2_with (first|(go_at_call 201;refine(aM9 _ s0 d0 _ (h0.ext xT) oM oM).mono ?_;rintro e w1 ⟨v1,rfl,hx1,hv⟩;have hz1:=hx1.size;obtain⟨hc1,hf1⟩:=hx1.cells;(repeat (first|simp only[World.size_alloc] at hz1 hc1 hf1|simp only[World.size_setCell] at hz1 hc1 hf1));have JJ:w.heap.size<w1.heap.size:=oM;rcases hv with⟨rfl,q1⟩|⟨rfl,q1⟩)|(go_at_call 202;refine(aT9 _ s1 d1 _ (h1.ext xT) oM oM).mono ?_;rintro e w2 ⟨v2,rfl,hx2,hv⟩;have hz2:=hx2.size;obtain⟨hc2,hf2⟩:=hx2.cells;(repeat (first|simp only[World.size_alloc] at hz2 hc2 hf2|simp only[World.size_setCell] at hz2 hc2 hf2));have VC:w.heap.size<w2.heap.size:=oM;rcases hv with⟨rfl,q2⟩|⟨rfl,q2⟩))
 all_goals
  go_ret
  refine⟨_,rfl,?_,?_⟩
  .
   exact xT
  first|exact .inl ⟨rfl,by omega⟩|(refine .inr ⟨congrArg (Value.int .i64) ?_,?_⟩ <;> omega)
theorem aN1(w:World)(s0:Value)(t0:Value)(d0:List (List Int × List Int))(s1:Value)(t1:Value)(d1:List (List Int × List Int))(h0:Ll 0 w s0 d0)(k0:Ll 0 w t0 d0)(h1:Ll 1 w s1 d1)(k1:Ll 1 w t1 d1):Calls Tryz.prog 145 #[.agg #[s0,s1],.agg #[t0,t1]] w (Fz w (.bool true)):=by
 go_enter Tryz.func145,Tryz.ntmps145
 go_wp2_with (first|(go_at_call 249;refine(aM8 _ s0 t0 d0 (h0.ext xT) (k0.ext xT)).mono ?_;rintro e w1 ⟨rfl,hx1⟩;have hz1:=hx1.size;obtain⟨hc1,hf1⟩:=hx1.cells;(repeat (first|simp only[World.size_alloc] at hz1 hc1 hf1|simp only[World.size_setCell] at hz1 hc1 hf1));have JJ:w.heap.size<w1.heap.size:=oM;have PP:w.heap.size+1<w1.heap.size:=oM)|(go_at_call 250;refine(aT8 _ s1 t1 d1 (h1.ext xT) (k1.ext xT)).mono ?_;rintro e w2 ⟨rfl,hx2⟩;have hz2:=hx2.size;obtain⟨hc2,hf2⟩:=hx2.cells;(repeat (first|simp only[World.size_alloc] at hz2 hc2 hf2|simp only[World.size_setCell] at hz2 hc2 hf2));have VC:w.heap.size<w2.heap.size:=oM;have aD0:w.heap.size+1<w2.heap.size:=oM))
 go_ret
 refine⟨rfl,?_⟩
 exact xT
theorem ZS(w:World)(B:Nat)(s0:Value)(d0:List wK)(ss0:List Value)(s1:Value)(d1:List wK)(ss1:List Value)(q:Int)(h0:Px B 62 2 0 w s0 d0 ss0)(h1:Px B 312 2 1 w s1 d1 ss1)
  (hd:∀k,k ∈ Ep (s0::ss0)->k ∈ Ep (s1::ss1)->False) (hq0:0<=q) (hq1:q+(tot 0 d0:Nat)+(tot 1 d1:Nat)<=4611686018427387904) :
  Calls Tryz.prog 157 #[.agg #[s0,s1],.int .i64 q] w (IX w (Ep (s0::ss0)++Ep (s1::ss1)) (.int .i64 (q+(tot 0 d0:Nat)+(tot 1 d1:Nat))) fun w'=>Px B 62 2 0 w' s0 (FQ 0 q d0) ss0/\Px B 312 2 1 w' s1 (FQ 1 (q+(tot 0 d0:Nat)) d1) ss1):=by
 obtain⟨a0,n0,c0,rfl⟩:=h0.nest.shape
 obtain⟨a1,n1,c1,rfl⟩:=h1.nest.shape
 go_enter Tryz.func157,Tryz.ntmps157
 go_wp2_with fail
 refine(aD4 _ B _ _ ss0 _ (h0.ext xT) oM oM).mono ?_
 rintro e w1⟨rfl,hx1,g0⟩
 have hb:Blk w1 w.heap.size 70 #[.slice a0 n0 c0,.slice a1 n1 c1]:=Blk.upd (Blk.new _ _ _) hx1 (fun hk=>by have:=h0.foot _ hk;omega)
 have hc:=hb.cell
 have g1:Px B 312 2 1 w1 (.slice a1 n1 c1) d1 ss1:=Px.upd (h1.ext ((Ext.refl w).alloc _)) hx1 (fun k h2 h3=>hd k h3 h2)
 have hlt:=hb.lt
 go_wp2_with fail
 refine(aI2 _ B _ _ ss1 _ (g1.ext xT) oM oM).mono ?_
 rintro e w2⟨rfl,hx2,g1'⟩
 clear hc
 go_wp2
 go_ret
 refine⟨rfl,((Ext.upd ((Ext.refl w).alloc _) _).trans (hx1.more (fun k hk=>List.mem_append_left _ hk))).trans (hx2.more (fun k hk=>List.mem_append_right _ hk)),Px.upd g0 hx2 (fun k h2 h3=>hd k h2 h3),g1'⟩
theorem bD7:(Tryz.prog.info? 362).map (fun i=>(i.zero,i.size,i.bytes))=some (some (.agg #[.int .i64 0,.int .i64 0]),2,16):=by kernel_rfl
theorem bN4(w:World)(x0 x1:Int):Calls Tryz.prog 342 #[.agg #[.int .i64 x0,.int .i64 x1],.agg #[.int .i64 x0,.int .i64 x1]] w (Fz w (.bool true)):=by
 go_enter Tryz.func342,Tryz.ntmps342
 go_wp2
 repeat (go_quiet (fail);go_wp2)
 go_ret
 exact⟨rfl,xT⟩
theorem bD8(w:World)(va vb:Value)(xs:List Int)(ha:Aw 2 w va xs)(hb:Aw 2 w vb xs):Calls Tryz.prog 251 #[va,vb] w (Fz w (.bool true)):=by
 obtain⟨a,len,ca,rfl,hl,hca,hm,ha'⟩:=ha.open_
 obtain⟨b,len',cb,rfl,hl',_,_,hb'⟩:=hb.open_
 obtain rfl:len=len':=by omega
 have HA:=Lib.hid ha';have HB:=Lib.hid hb'
 clear ha' hb' hl hl' ha hb
 unfold maxLen at hm
 go_enter Tryz.func251,Tryz.ntmps251
 go_wp2
 go_loopw [5] (fun i wr=>∃k:Nat,k<=len/\i=.int .i64 k/\Ext w wr) (fun i _=>len - (intOf i).toNat)
 case atStart=>exact⟨0,Nat.zero_le _,rfl,Ext.refl _⟩
 case round =>
  obtain⟨k,hk,rfl,he⟩:=hrel
  by_cases hlt:k<len
  .
   obtain⟨b1,o1,rfl,_,c1⟩:=HA.out k hlt
   obtain⟨b2,o2,rfl,_,c2⟩:=HB.out k hlt
   obtain⟨x0,hx0,c10⟩:=c1 0 oM
   obtain⟨x1,hx1,c11⟩:=c1 1 oM
   obtain⟨y0,hy0,c20⟩:=c2 0 oM
   obtain⟨y1,hy1,c21⟩:=c2 1 oM
   obtain rfl:x0=y0:=by rw[hx0] at hy0;exact Option.some.inj hy0
   obtain rfl:x1=y1:=by rw[hx1] at hy1;exact Option.some.inj hy1
   have d0:=he.cell c10;have e0:=he.cell c20
   have d1:=he.cell c11;have e1:=he.cell c21
   simp only[Nat.add_zero] at d0 e0
   clear c1 c2 c10 c20 hx0 hy0 c11 c21 hx1 hy1
   go_wp2
   go_region_held3 (fun w'=>Ext wr w'/\w'.cell? ⟨b1,o1+k*2,none⟩=some (.int .i64 x0)/\w'.cell? ⟨b1,o1+k*2+1,none⟩=some (.int .i64 x1)/\w'.cell? ⟨b2,o2+k*2,none⟩=some (.int .i64 x0)/\w'.cell? ⟨b2,o2+k*2+1,none⟩=some (.int .i64 x1)) (first|exact⟨Ext.drew (Ext.refl _),d0,d1,e0,e1⟩|exact LV (S:=fun w'=>Ext wr w'/\w'.cell? ⟨b1,o1+k*2,none⟩=some (.int .i64 x0)/\w'.cell? ⟨b1,o1+k*2+1,none⟩=some (.int .i64 x1)/\w'.cell? ⟨b2,o2+k*2,none⟩=some (.int .i64 x0)/\w'.cell? ⟨b2,o2+k*2+1,none⟩=some (.int .i64 x1)) (by assumption) hx (fun a b h x=>⟨h.1.trans x,(h.1.trans x).cell d0,(h.1.trans x).cell d1,(h.1.trans x).cell e0,(h.1.trans x).cell e1⟩)) ((go_at_call 342;refine(bN4 _ _ _).mono ?_;rintro e w' ⟨rfl,hx⟩))
   go_wp2
   go_roundw
   case rel=>exact⟨k+1,by omega,by go_num,he.trans (And.left ‹_›)⟩
   case measure=>simp[intOf];omega
  go_wp2
  go_ret
  exact⟨rfl,he⟩
theorem aN2(w:World)(B:Nat)(v:Value)(xs:List Int)(L:Nat)(hL:xs.length=L*2)(q:Int)(h:Ba B 362 2 w v xs)(h0:0<=q)(h1:q+(L*2:Nat)<=4611686018427387904):Calls Tryz.prog 261 #[v,.int .i64 q] w (IX w (Ep [v]) (.int .i64 (q+(L*2:Nat))) fun w'=>Ba B 362 2 w' v (run q (L*2))):=by
 obtain⟨a,len,ca,rfl,hl,hca,hm,hop⟩:=Own.open_ h
 rw[List.length_map] at hl
 obtain rfl:L=len:=by omega
 unfold maxLen at hm
 rcases hop with h00|⟨g,cur0,rfl,hB,hb0,hs0,-⟩
 .
  subst h00
  have hfin:Ba B 362 2 w (.slice a 0 ca) (run q (0*2)):=by
   refine Own.empty h ?_ _ ?_
   .
    exact List.eq_nil_of_length_eq_zero (by simpa using hL)
   simp[run]
  have HF:=Lib.hid hfin
  clear hfin h hL hl
  have hq:q+((0*2:Nat):Int)=q:=by simp
  rw[hq]
  clear hq
  go_enter Tryz.func261,Tryz.ntmps261
  go_wp2
  go_loopw [1,5] (fun kk i wr=>kk=.int .i64 q/\i=.int .i64 0/\wr=w) (fun _ _ _=>0)
  case atStart=>exact⟨rfl,rfl,rfl⟩
  case round =>
   obtain⟨rfl,rfl,rfl⟩:=hrel
   go_wp2
   go_ret
   exact⟨rfl,Upd.refl _ _,HF.out⟩
 have HS:=Lib.hid hs0
 have HC:=Lib.hid (show L*2<=ca*2 by have:=Nat.mul_le_mul_right 2 hca;omega)
 clear hs0 hL hl h
 go_enter Tryz.func261,Tryz.ntmps261
 go_wp2
 go_loopw [1,5] (fun kk i wr=>∃k:Nat,k<=L/\i=.int .i64 k/\(∃q':Int,q'=q+(k*2:Nat)/\kk=.int .i64 q')/\Upd w wr [g]/\∃cur,Blk wr g 362 cur/\cur.size=ca*2/\Pre cur (k*2) ((run q (L*2)).map (.int .i64))) (fun _ i _=>L - (intOf i).toNat)
 case atStart=>exact⟨0,Nat.zero_le _,rfl,⟨q,by simp,rfl⟩,Upd.refl _ _,cur0,hb0,HS.out,by simpa using Pre.zero _ _⟩
 case round =>
  obtain⟨k,hk,rfl,⟨q',hq',rfl⟩,he,cur,hblk,hsz,hpre⟩:=hrel
  clear HS
  have HS:=Lib.hid hsz
  have HQ:=Lib.hid hq'
  by_cases hlt:k<L
  .
   have hq1:0<=q'/\q'+2<=4611686018427387904:=by have:=Av hlt 2;omega
   obtain⟨hq1,hq2⟩:=hq1
   clear hsz hq'
   obtain⟨z0,g0⟩:∃z,wr.cell? ⟨g,k*2,none⟩=some z:=⟨_,by rw[hblk.cell];exact Array.getElem?_eq_getElem (by have:=HS.out;have:=HC.out;have:=Av hlt 2;omega)⟩
   have f0:=hblk.frozen (k*2)
   obtain⟨z1,g1⟩:∃z,wr.cell? ⟨g,k*2+1,none⟩=some z:=⟨_,by rw[hblk.cell];exact Array.getElem?_eq_getElem (by have:=HS.out;have:=HC.out;have:=Av hlt 2;omega)⟩
   have f1:=hblk.frozen (k*2+1)
   go_wp2
   go_roundw
   case rel=>exact⟨k+1,by omega,by go_num,⟨_,by have:=HQ.out;omega,rfl⟩,((he.setCell (by simp) _).setCell (by simp) _),_,((hblk.set_ _ _).set_ _ _),by simp;exact HS.out,(((hpre.set (aP (by have:=Av hlt 2;omega) (by have:=HQ.out;omega)) (by have:=HS.out;have:=Av hlt 2;have:=HC.out;omega)).set (aP (by have:=Av hlt 2;omega) (by have:=HQ.out;omega)) (by have:=HS.out;have:=Av hlt 2;have:=HC.out;simp;omega))).cast oM⟩
   case measure=>simp[intOf];omega
  obtain rfl:k=L:=by omega
  clear hsz hq'
  go_wp2
  go_ret
  refine⟨congrArg (fun z=>Ending.returned (.int .i64 z)) HQ.out,he,Own.of_blk hblk hB HS.out (by simp[GR]) hca (by unfold maxLen;omega) hpre⟩
theorem bN5:(Tryz.prog.info? 366).map (fun i=>(i.zero,i.size,i.bytes))=some (some (.agg #[.int .i64 0,.int .i64 0,.int .i64 0,.int .i64 0,.int .i64 0]),5,40):=by kernel_rfl
theorem cC3(w:World)(x0 x1 x2 x3 x4:Int):Calls Tryz.prog 343 #[.agg #[.int .i64 x0,.int .i64 x1,.int .i64 x2,.int .i64 x3,.int .i64 x4],.agg #[.int .i64 x0,.int .i64 x1,.int .i64 x2,.int .i64 x3,.int .i64 x4]] w (Fz w (.bool true)):=by
 go_enter Tryz.func343,Tryz.ntmps343
 go_wp2
 repeat (go_quiet (fail);go_wp2)
 go_ret
 exact⟨rfl,xT⟩
theorem bN6(w:World)(va vb:Value)(xs:List Int)(ha:Aw 5 w va xs)(hb:Aw 5 w vb xs):Calls Tryz.prog 252 #[va,vb] w (Fz w (.bool true)):=by
 obtain⟨a,len,ca,rfl,hl,hca,hm,ha'⟩:=ha.open_
 obtain⟨b,len',cb,rfl,hl',_,_,hb'⟩:=hb.open_
 obtain rfl:len=len':=by omega
 have HA:=Lib.hid ha';have HB:=Lib.hid hb'
 clear ha' hb' hl hl' ha hb
 unfold maxLen at hm
 go_enter Tryz.func252,Tryz.ntmps252
 go_wp2
 go_loopw [5] (fun i wr=>∃k:Nat,k<=len/\i=.int .i64 k/\Ext w wr) (fun i _=>len - (intOf i).toNat)
 case atStart=>exact⟨0,Nat.zero_le _,rfl,Ext.refl _⟩
 case round =>
  obtain⟨k,hk,rfl,he⟩:=hrel
  by_cases hlt:k<len
  .
   obtain⟨b1,o1,rfl,_,c1⟩:=HA.out k hlt
   obtain⟨b2,o2,rfl,_,c2⟩:=HB.out k hlt
   obtain⟨x0,hx0,c10⟩:=c1 0 oM
   obtain⟨x1,hx1,c11⟩:=c1 1 oM
   obtain⟨x2,hx2,c12⟩:=c1 2 oM
   obtain⟨x3,hx3,c13⟩:=c1 3 oM
   obtain⟨x4,hx4,c14⟩:=c1 4 oM
   obtain⟨y0,hy0,c20⟩:=c2 0 oM
   obtain⟨y1,hy1,c21⟩:=c2 1 oM
   obtain⟨y2,hy2,c22⟩:=c2 2 oM
   obtain⟨y3,hy3,c23⟩:=c2 3 oM
   obtain⟨y4,hy4,c24⟩:=c2 4 oM
   obtain rfl:x0=y0:=by rw[hx0] at hy0;exact Option.some.inj hy0
   obtain rfl:x1=y1:=by rw[hx1] at hy1;exact Option.some.inj hy1
   obtain rfl:x2=y2:=by rw[hx2] at hy2;exact Option.some.inj hy2
   obtain rfl:x3=y3:=by rw[hx3] at hy3;exact Option.some.inj hy3
   obtain rfl:x4=y4:=by rw[hx4] at hy4;exact Option.some.inj hy4
   have d0:=he.cell c10;have e0:=he.cell c20
   have d1:=he.cell c11;have e1:=he.cell c21
   have d2:=he.cell c12;have e2:=he.cell c22
   have d3:=he.cell c13;have e3:=he.cell c23
   have d4:=he.cell c14;have e4:=he.cell c24
   simp only[Nat.add_zero] at d0 e0
   clear c1 c2 c10 c20 hx0 hy0 c11 c21 hx1 hy1 c12 c22 hx2 hy2 c13 c23 hx3 hy3 c14 c24 hx4 hy4
   go_wp2
   go_region_held3 (fun w'=>Ext wr w'/\w'.cell? ⟨b1,o1+k*5,none⟩=some (.int .i64 x0)/\w'.cell? ⟨b1,o1+k*5+1,none⟩=some (.int .i64 x1)/\w'.cell? ⟨b1,o1+k*5+2,none⟩=some (.int .i64 x2)/\w'.cell? ⟨b1,o1+k*5+3,none⟩=some (.int .i64 x3)/\w'.cell? ⟨b1,o1+k*5+4,none⟩=some (.int .i64 x4)/\w'.cell? ⟨b2,o2+k*5,none⟩=some (.int .i64 x0)/\w'.cell? ⟨b2,o2+k*5+1,none⟩=some (.int .i64 x1)/\w'.cell? ⟨b2,o2+k*5+2,none⟩=some (.int .i64 x2)/\w'.cell? ⟨b2,o2+k*5+3,none⟩=some (.int .i64 x3)/\w'.cell? ⟨b2,o2+k*5+4,none⟩=some (.int .i64 x4)) (first|exact⟨Ext.drew (Ext.refl _),d0,d1,d2,d3,d4,e0,e1,e2,e3,e4⟩|exact LV (S:=fun w'=>Ext wr w'/\w'.cell? ⟨b1,o1+k*5,none⟩=some (.int .i64 x0)/\w'.cell? ⟨b1,o1+k*5+1,none⟩=some (.int .i64 x1)/\w'.cell? ⟨b1,o1+k*5+2,none⟩=some (.int .i64 x2)/\w'.cell? ⟨b1,o1+k*5+3,none⟩=some (.int .i64 x3)/\w'.cell? ⟨b1,o1+k*5+4,none⟩=some (.int .i64 x4)/\w'.cell? ⟨b2,o2+k*5,none⟩=some (.int .i64 x0)/\w'.cell? ⟨b2,o2+k*5+1,none⟩=some (.int .i64 x1)/\w'.cell? ⟨b2,o2+k*5+2,none⟩=some (.int .i64 x2)/\w'.cell? ⟨b2,o2+k*5+3,none⟩=some (.int .i64 x3)/\w'.cell? ⟨b2,o2+k*5+4,none⟩=some (.int .i64 x4)) (by assumption) hx (fun a b h x=>⟨h.1.trans x,(h.1.trans x).cell d0,(h.1.trans x).cell d1,(h.1.trans x).cell d2,(h.1.trans x).cell d3,(h.1.trans x).cell d4,(h.1.trans x).cell e0,(h.1.trans x).cell e1,(h.1.trans x).cell e2,(h.1.trans x).cell e3,(h.1.trans x).cell e4⟩)) ((go_at_call 343;refine(cC3 _ _ _ _ _ _).mono ?_;rintro e w' ⟨rfl,hx⟩))
   go_wp2
   go_roundw
   case rel=>exact⟨k+1,by omega,by go_num,he.trans (And.left ‹_›)⟩
   case measure=>simp[intOf];omega
  go_wp2
  go_ret
  exact⟨rfl,he⟩
theorem aU0(w:World)(B:Nat)(v:Value)(xs:List Int)(L:Nat)(hL:xs.length=L*5)(q:Int)(h:Ba B 366 5 w v xs)(h0:0<=q)(h1:q+(L*5:Nat)<=4611686018427387904):Calls Tryz.prog 262 #[v,.int .i64 q] w (IX w (Ep [v]) (.int .i64 (q+(L*5:Nat))) fun w'=>Ba B 366 5 w' v (run q (L*5))):=by
 obtain⟨a,len,ca,rfl,hl,hca,hm,hop⟩:=Own.open_ h
 rw[List.length_map] at hl
 obtain rfl:L=len:=by omega
 unfold maxLen at hm
 rcases hop with h00|⟨g,cur0,rfl,hB,hb0,hs0,-⟩
 .
  subst h00
  have hfin:Ba B 366 5 w (.slice a 0 ca) (run q (0*5)):=by
   refine Own.empty h ?_ _ ?_
   .
    exact List.eq_nil_of_length_eq_zero (by simpa using hL)
   simp[run]
  have HF:=Lib.hid hfin
  clear hfin h hL hl
  have hq:q+((0*5:Nat):Int)=q:=by simp
  rw[hq]
  clear hq
  go_enter Tryz.func262,Tryz.ntmps262
  go_wp2
  go_loopw [1,5] (fun kk i wr=>kk=.int .i64 q/\i=.int .i64 0/\wr=w) (fun _ _ _=>0)
  case atStart=>exact⟨rfl,rfl,rfl⟩
  case round =>
   obtain⟨rfl,rfl,rfl⟩:=hrel
   go_wp2
   go_ret
   exact⟨rfl,Upd.refl _ _,HF.out⟩
 have HS:=Lib.hid hs0
 have HC:=Lib.hid (show L*5<=ca*5 by have:=Nat.mul_le_mul_right 5 hca;omega)
 clear hs0 hL hl h
 go_enter Tryz.func262,Tryz.ntmps262
 go_wp2
 go_loopw [1,5] (fun kk i wr=>∃k:Nat,k<=L/\i=.int .i64 k/\(∃q':Int,q'=q+(k*5:Nat)/\kk=.int .i64 q')/\Upd w wr [g]/\∃cur,Blk wr g 366 cur/\cur.size=ca*5/\Pre cur (k*5) ((run q (L*5)).map (.int .i64))) (fun _ i _=>L - (intOf i).toNat)
 case atStart=>exact⟨0,Nat.zero_le _,rfl,⟨q,by simp,rfl⟩,Upd.refl _ _,cur0,hb0,HS.out,by simpa using Pre.zero _ _⟩
 case round =>
  obtain⟨k,hk,rfl,⟨q',hq',rfl⟩,he,cur,hblk,hsz,hpre⟩:=hrel
  clear HS
  have HS:=Lib.hid hsz
  have HQ:=Lib.hid hq'
  by_cases hlt:k<L
  .
   have hq1:0<=q'/\q'+5<=4611686018427387904:=by have:=Av hlt 5;omega
   obtain⟨hq1,hq2⟩:=hq1
   clear hsz hq'
   obtain⟨z0,g0⟩:∃z,wr.cell? ⟨g,k*5,none⟩=some z:=⟨_,by rw[hblk.cell];exact Array.getElem?_eq_getElem (by have:=HS.out;have:=HC.out;have:=Av hlt 5;omega)⟩
   have f0:=hblk.frozen (k*5)
   obtain⟨z1,g1⟩:∃z,wr.cell? ⟨g,k*5+1,none⟩=some z:=⟨_,by rw[hblk.cell];exact Array.getElem?_eq_getElem (by have:=HS.out;have:=HC.out;have:=Av hlt 5;omega)⟩
   have f1:=hblk.frozen (k*5+1)
   obtain⟨z2,g2⟩:∃z,wr.cell? ⟨g,k*5+2,none⟩=some z:=⟨_,by rw[hblk.cell];exact Array.getElem?_eq_getElem (by have:=HS.out;have:=HC.out;have:=Av hlt 5;omega)⟩
   have f2:=hblk.frozen (k*5+2)
   obtain⟨z3,g3⟩:∃z,wr.cell? ⟨g,k*5+3,none⟩=some z:=⟨_,by rw[hblk.cell];exact Array.getElem?_eq_getElem (by have:=HS.out;have:=HC.out;have:=Av hlt 5;omega)⟩
   have f3:=hblk.frozen (k*5+3)
   obtain⟨z4,g4⟩:∃z,wr.cell? ⟨g,k*5+4,none⟩=some z:=⟨_,by rw[hblk.cell];exact Array.getElem?_eq_getElem (by have:=HS.out;have:=HC.out;have:=Av hlt 5;omega)⟩
   have f4:=hblk.frozen (k*5+4)
   go_wp2
   go_roundw
   case rel=>exact⟨k+1,by omega,by go_num,⟨_,by have:=HQ.out;omega,rfl⟩,(((((he.setCell (by simp) _).setCell (by simp) _).setCell (by simp) _).setCell (by simp) _).setCell (by simp) _),_,(((((hblk.set_ _ _).set_ _ _).set_ _ _).set_ _ _).set_ _ _),by simp;exact HS.out,((((((hpre.set (aP (by have:=Av hlt 5;omega) (by have:=HQ.out;omega)) (by have:=HS.out;have:=Av hlt 5;have:=HC.out;omega)).set (aP (by have:=Av hlt 5;omega) (by have:=HQ.out;omega)) (by have:=HS.out;have:=Av hlt 5;have:=HC.out;simp;omega)).set (aP (by have:=Av hlt 5;omega) (by have:=HQ.out;omega)) (by have:=HS.out;have:=Av hlt 5;have:=HC.out;simp;omega)).set (aP (by have:=Av hlt 5;omega) (by have:=HQ.out;omega)) (by have:=HS.out;have:=Av hlt 5;have:=HC.out;simp;omega)).set (aP (by have:=Av hlt 5;omega) (by have:=HQ.out;omega)) (by have:=HS.out;have:=Av hlt 5;have:=HC.out;simp;omega))).cast oM⟩
   case measure=>simp[intOf];omega
  obtain rfl:k=L:=by omega
  clear hsz hq'
  go_wp2
  go_ret
  refine⟨congrArg (fun z=>Ending.returned (.int .i64 z)) HQ.out,he,Own.of_blk hblk hB HS.out (by simp[GR]) hca (by unfold maxLen;omega) hpre⟩
theorem bD9(w:World)(x0 x1 x2:Int):Calls Tryz.prog 253 #[.agg #[.int .i64 x0,.int .i64 x1,.int .i64 x2],.agg #[.int .i64 x0,.int .i64 x1,.int .i64 x2]] w (Fz w (.bool true)):=by
 go_enter Tryz.func253,Tryz.ntmps253
 go_wp2
 repeat (go_quiet (fail);go_wp2)
 go_ret
 exact⟨rfl,xT⟩
theorem bE0(w:World)(c0:Int)(c1:Int)(s2:Value)(t2:Value)(d2:List Int)(s3:Value)(t3:Value)(d3:List Int)(c4:Int)(c5:Int)(c6:Int)(h2:Aw 2 w s2 d2)(k2:Aw 2 w t2 d2)(h3:Aw 5 w s3 d3)(k3:Aw 5 w t3 d3):Calls Tryz.prog 146 #[.agg #[.int .i64 c0,.int .i64 c1,s2,s3,.int .i64 c4,.int .i64 c5,.int .i64 c6],.agg #[.int .i64 c0,.int .i64 c1,t2,t3,.int .i64 c4,.int .i64 c5,.int .i64 c6]] w (Fz w (.bool true)):=by
 go_enter Tryz.func146,Tryz.ntmps146
 go_wp2_with (first|(go_at_call 251;refine(bD8 _ s2 t2 d2 (h2.ext xT) (k2.ext xT)).mono ?_;rintro e w1 ⟨rfl,hx1⟩;have hz1:=hx1.size;obtain⟨hc1,hf1⟩:=hx1.cells;(repeat (first|simp only[World.size_alloc] at hz1 hc1 hf1|simp only[World.size_setCell] at hz1 hc1 hf1));have JJ:w.heap.size<w1.heap.size:=oM;have PP:w.heap.size+1<w1.heap.size:=oM)|(go_at_call 252;refine(bN6 _ s3 t3 d3 (h3.ext xT) (k3.ext xT)).mono ?_;rintro e w2 ⟨rfl,hx2⟩;have hz2:=hx2.size;obtain⟨hc2,hf2⟩:=hx2.cells;(repeat (first|simp only[World.size_alloc] at hz2 hc2 hf2|simp only[World.size_setCell] at hz2 hc2 hf2));have VC:w.heap.size<w2.heap.size:=oM;have aD0:w.heap.size+1<w2.heap.size:=oM)|(go_at_call 253;refine(bD9 _ c4 c5 c6).mono ?_;rintro e w3 ⟨rfl,hx3⟩;have hz3:=hx3.size;obtain⟨hc3,hf3⟩:=hx3.cells;(repeat (first|simp only[World.size_alloc] at hz3 hc3 hf3|simp only[World.size_setCell] at hz3 hc3 hf3));have cP2:w.heap.size<w3.heap.size:=oM;have cP3:w.heap.size+1<w3.heap.size:=oM))
 go_ret
 refine⟨rfl,?_⟩
 exact xT
theorem aN3(w:World)(B:Nat)(c0 c1:Int)(s2:Value)(d2:List Int)(L2:Nat)(hL2:d2.length=L2*2)(s3:Value)(d3:List Int)(L3:Nat)(hL3:d3.length=L3*5)(c4 c5 c6:Int)(q:Int)(h2:Ba B 362 2 w s2 d2)(h3:Ba B 366 5 w s3 d3)
  (hd:∀k,k ∈ Ep [s2]->k ∈ Ep [s3]->False) (hq0:0<=q) (hq1:q+(L2*2:Nat)+(L3*5:Nat)<=4611686018427387904) :
  Calls Tryz.prog 158 #[.agg #[.int .i64 c0,.int .i64 c1,s2,s3,.int .i64 c4,.int .i64 c5,.int .i64 c6],.int .i64 q] w (IX w (Ep [s2]++Ep [s3]) (.int .i64 (q+(L2*2:Nat)+(L3*5:Nat))) fun w'=>Ba B 362 2 w' s2 (run q (L2*2))/\Ba B 366 5 w' s3 (run (q+(L2*2:Nat)) (L3*5))):=by
 obtain⟨a2,n2,k2,rfl⟩:=h2.shape
 obtain⟨a3,n3,k3,rfl⟩:=h3.shape
 obtain⟨Q,hQ⟩:∃z:Int,z=q+((L2*2:Nat):Int):=⟨_,rfl⟩
 have h2f:=h2.foot
 rw[<-hQ] at hq1 ⊢
 have hQ0:0<=Q:=by omega
 have HQ:=Lib.hid hQ
 go_enter Tryz.func158,Tryz.ntmps158
 go_wp2_with fail
 refine(aN2 _ B _ _ L2 hL2 _ (h2.ext xT) oM oM).mono ?_
 rintro e w1⟨rfl,hx1,g2⟩
 rw[<-HQ.out]
 clear hQ
 have hb:Blk w1 w.heap.size 86 #[.int .i64 c0,.int .i64 c1,.slice a2 n2 k2,.slice a3 n3 k3,.int .i64 c4,.int .i64 c5,.int .i64 c6]:=Blk.upd (Blk.new _ _ _) hx1 (fun hk=>by have:=h2f _ hk;omega)
 have hc:=hb.cell;have hlt:=hb.lt
 have g3:Ba B 366 5 w1 (.slice a3 n3 k3) d3:=Ba.upd' (h3.ext ((Ext.refl w).alloc _)) hx1 (fun k h4 h5=>hd k h5 h4)
 go_wp2_with fail
 refine(aU0 _ B _ _ L3 hL3 _ (g3.ext xT) oM oM).mono ?_
 rintro e w2⟨rfl,hx2,g3'⟩
 clear hc
 go_wp2
 go_ret
 refine⟨rfl,((Ext.upd ((Ext.refl w).alloc _) _).trans (hx1.more (fun k hk=>List.mem_append_left _ hk))).trans (hx2.more (fun k hk=>List.mem_append_right _ hk)),Ba.upd' g2 hx2 (fun k h4 h5=>hd k h4 h5),g3'⟩
theorem bE1(w:World)(s0:Value)(t0:Value)(d0:List (List Int × List Int))(s1:Value)(t1:Value)(d1:List (List Int × List Int))(c2:Int)(c3:Int)(s4:Value)(t4:Value)(d4:List Int)(s5:Value)(t5:Value)(d5:List Int)(c6:Int)(c7:Int)(c8:Int)(c9:Int)(c10:Int)(c11:Int)(h0:Ll 0 w s0 d0)(k0:Ll 0 w t0 d0)(h1:Ll 1 w s1 d1)(k1:Ll 1 w t1 d1)(h4:Aw 2 w s4 d4)(k4:Aw 2 w t4 d4)(h5:Aw 5 w s5 d5)(k5:Aw 5 w t5 d5):Calls Tryz.prog 53 #[.agg #[s0,s1,.int .i64 c2,.int .i64 c3,s4,s5,.int .i64 c6,.int .i64 c7,.int .i64 c8,.int .i64 c9,.int .i64 c10,.int .i64 c11],.agg #[t0,t1,.int .i64 c2,.int .i64 c3,t4,t5,.int .i64 c6,.int .i64 c7,.int .i64 c8,.int .i64 c9,.int .i64 c10,.int .i64 c11]] w (Fz w (.bool true)):=by
 go_enter Tryz.func53,Tryz.ntmps53
 go_wp2_with (first|(go_at_call 145;refine(aN1 _ s0 t0 d0 s1 t1 d1 (h0.ext xT) (k0.ext xT) (h1.ext xT) (k1.ext xT)).mono ?_;rintro e w1 ⟨rfl,hx1⟩;have hz1:=hx1.size;obtain⟨hc1,hf1⟩:=hx1.cells;(repeat (first|simp only[World.size_alloc] at hz1 hc1 hf1|simp only[World.size_setCell] at hz1 hc1 hf1));have JJ:w.heap.size<w1.heap.size:=oM;have PP:w.heap.size+1<w1.heap.size:=oM)|(go_at_call 146;refine(bE0 _ c2 c3 s4 t4 d4 s5 t5 d5 c6 c7 c8 (h4.ext xT) (k4.ext xT) (h5.ext xT) (k5.ext xT)).mono ?_;rintro e w2 ⟨rfl,hx2⟩;have hz2:=hx2.size;obtain⟨hc2,hf2⟩:=hx2.cells;(repeat (first|simp only[World.size_alloc] at hz2 hc2 hf2|simp only[World.size_setCell] at hz2 hc2 hf2));have VC:w.heap.size<w2.heap.size:=oM;have aD0:w.heap.size+1<w2.heap.size:=oM))
 go_ret
 refine⟨rfl,?_⟩
 exact xT
theorem wR(w:World)(x lo hi:Int):Calls Tryz.prog 303 #[.int .i64 x,.int .i64 lo,.int .i64 hi] w fun e w'=>e=.returned (.bool (inb x lo hi))/\w=w':=by
 by_cases h1:lo<=x
 .
  by_cases h2:x<=hi
  .
   rw[aH7 h1 h2]
   go_enter Tryz.func303,Tryz.ntmps303
   go_wp2
   go_ret
   exact⟨rfl,rfl⟩
  rw[bM6 oM]
  go_enter Tryz.func303,Tryz.ntmps303
  go_wp2
  go_ret
  exact⟨rfl,rfl⟩
 rw[bM5 oM]
 go_enter Tryz.func303,Tryz.ntmps303
 go_wp2
 go_ret
 exact⟨rfl,rfl⟩
theorem Og(w:World)(x lo hi:Int):Calls Tryz.prog 176 #[.int .i64 x,.int .i64 lo,.int .i64 hi] w fun e w'=>e=.returned (.bool (inb x lo hi))/\w=w':=by
 by_cases h1:lo<=x
 .
  by_cases h2:x<=hi
  .
   rw[aH7 h1 h2]
   go_enter Tryz.func176,Tryz.ntmps176
   go_wp2
   go_ret
   exact⟨rfl,rfl⟩
  rw[bM6 oM]
  go_enter Tryz.func176,Tryz.ntmps176
  go_wp2
  go_ret
  exact⟨rfl,rfl⟩
 rw[bM5 oM]
 go_enter Tryz.func176,Tryz.ntmps176
 go_wp2
 go_ret
 exact⟨rfl,rfl⟩
theorem BK(w:World)(x:Int):Calls Tryz.prog 207 #[.int .i64 x] w fun e w'=>e=.returned (.bool (wZ x))/\w=w':=by
 go_enter Tryz.func207,Tryz.ntmps207
 go_wp2_with (first|(go_at_call 303;refine(wR _ _ _ _).mono ?_;rintro e w1 ⟨rfl,rfl⟩))
 go_ret
 exact⟨rfl,rfl⟩
theorem aI3(w:World)(a b:DO):Calls Tryz.prog 427 #[.agg #[.int .i64 a.Id,.int .i64 a.Due],.agg #[.int .i64 b.Id,.int .i64 b.Due]] w (Fz w (.bool (IF a b))):=by
 by_cases h1:a.Due<b.Due
 .
  rw[YW h1]
  go_enter Tryz.func427,Tryz.ntmps427
  go_wp2
  go_ret
  exact⟨rfl,by repeat (with_reducible (first|exact Ext.refl _|refine Ext.alloc ?_ _))⟩
 by_cases h2:a.Due=b.Due
 .
  have h2':(a.Due == b.Due)=true:=by simpa using h2
  by_cases h3:a.Id<b.Id
  .
   rw[YX h2 h3]
   clear h2
   go_enter Tryz.func427,Tryz.ntmps427
   go_wp2
   go_ret
   exact⟨rfl,by repeat (with_reducible (first|exact Ext.refl _|refine Ext.alloc ?_ _))⟩
  rw[YZ h2 h3]
  clear h2
  go_enter Tryz.func427,Tryz.ntmps427
  go_wp2
  go_ret
  exact⟨rfl,by repeat (with_reducible (first|exact Ext.refl _|refine Ext.alloc ?_ _))⟩
 have h2':(a.Due == b.Due)=false:=by simpa using h2
 rw[YY h1 h2]
 clear h2
 go_enter Tryz.func427,Tryz.ntmps427
 go_wp2
 go_ret
 exact⟨rfl,by repeat (with_reducible (first|exact Ext.refl _|refine Ext.alloc ?_ _))⟩
theorem bE2(w:World)(a b:DO):Calls Tryz.prog 426 #[.agg #[.int .i64 a.Id,.int .i64 a.Due],.agg #[.int .i64 b.Id,.int .i64 b.Due]] w (Fz w (.bool (IF a b))):=by
 by_cases h1:a.Due<b.Due
 .
  rw[YW h1]
  go_enter Tryz.func426,Tryz.ntmps426
  go_wp2
  go_ret
  exact⟨rfl,by repeat (with_reducible (first|exact Ext.refl _|refine Ext.alloc ?_ _))⟩
 by_cases h2:a.Due=b.Due
 .
  have h2':(a.Due == b.Due)=true:=by simpa using h2
  by_cases h3:a.Id<b.Id
  .
   rw[YX h2 h3]
   clear h2
   go_enter Tryz.func426,Tryz.ntmps426
   go_wp2
   go_ret
   exact⟨rfl,by repeat (with_reducible (first|exact Ext.refl _|refine Ext.alloc ?_ _))⟩
  rw[YZ h2 h3]
  clear h2
  go_enter Tryz.func426,Tryz.ntmps426
  go_wp2
  go_ret
  exact⟨rfl,by repeat (with_reducible (first|exact Ext.refl _|refine Ext.alloc ?_ _))⟩
 have h2':(a.Due == b.Due)=false:=by simpa using h2
 rw[YY h1 h2]
 clear h2
 go_enter Tryz.func426,Tryz.ntmps426
 go_wp2
 go_ret
 exact⟨rfl,by repeat (with_reducible (first|exact Ext.refl _|refine Ext.alloc ?_ _))⟩
theorem aI4(w:World)(x:Int):Calls Tryz.prog 391 #[.int .i64 x] w fun e w'=>e=.returned (.bool (SS x))/\w=w':=by
 go_enter Tryz.func391,Tryz.ntmps391
 go_wp2_with (first|(go_at_call 303;refine(wR _ _ _ _).mono ?_;rintro e w1 ⟨rfl,rfl⟩))
 go_ret
 exact⟨rfl,rfl⟩
theorem AT(w:World)(x:Int):Calls Tryz.prog 177 #[.int .i64 x] w fun e w'=>e=.returned (.bool (wZ x))/\w=w':=by
 go_enter Tryz.func177,Tryz.ntmps177
 go_wp2_with (first|(go_at_call 176;refine(Og _ _ _ _).mono ?_;rintro e w1 ⟨rfl,rfl⟩))
 go_ret
 exact⟨rfl,rfl⟩
theorem VG(w:World)(x:Int):Calls Tryz.prog 347 #[.int .i64 x] w fun e w'=>e=.returned (.bool (SS x))/\w=w':=by
 go_enter Tryz.func347,Tryz.ntmps347
 go_wp2_with (first|(go_at_call 176;refine(Og _ _ _ _).mono ?_;rintro e w1 ⟨rfl,rfl⟩))
 go_ret
 exact⟨rfl,rfl⟩
def Bd(l:List (List Int)):List wK:=l.map (fun r=>([],r))
def Dq(l:List AG):List wK:=l.map (fun d=>([d.At],d.Row))
def GK(l:List OP):List wK:=l.map (fun d=>([d.From,d.To],d.Row))
def MR(r:List Int):Bool:=decide (r.length<=48)&&r.all (fun x=>inb x 0 1000000000)
def KI(n:Nat)(w:AG):Bool:=inb w.At 0 (n - 1)&&MR w.Row
def GN(d:EI):Bool:=decide (1<=d.Kept.length/\d.Kept.length<=40/\d.Wait.length<=60)&&(d.Kept.all MR&&d.Wait.all (KI d.Kept.length))
def MS(d:EI):Bool:=GN d&&decide (d.Kept.length=8)
theorem JH{α:Type}{p:α->Bool}{l:List α}{k:Nat}{d:α}(h:l[k]?=some d)(h1:(l.take k).all p=true)(h2:p d=true):(l.take (k+1)).all p=true:=by
 rw[List.take_add_one,h,List.all_append,h1];simp[h2]
theorem MU{α:Type}{p:α->Bool}{l:List α}{k:Nat}{d:α}(h:l[k]?=some d)(h2:p d=false):l.all p=false:=by
 rw[Bool.eq_false_iff];intro hh
 rw[List.all_eq_true] at hh
 have:=hh d (List.mem_of_getElem? h)
 rw[h2] at this;cases this
theorem Aw.one{w:World}{v:Value}{l:List Int}(h:Aw 1 w v l):∃a cap,v=.slice a l.length cap/\l.length<=cap/\cap<=maxLen /\
  ∀i,i<l.length->∃x b off,l[i]?=some x/\a=some ⟨b,off,none⟩/\b<w.heap.size/\w.cell? ⟨b,off+i,none⟩=some (.int .i64 x):=by
 obtain⟨a,len,cap,rfl,hl,h1,h2,h3⟩:=h.open_
 obtain rfl:l.length=len:=by omega
 refine⟨a,cap,rfl,h1,h2,fun i hi=>?_⟩
 obtain⟨b,off,ha,hb,hc⟩:=h3 i hi
 obtain⟨x,hx,hcell⟩:=hc 0 oM
 simp only[Nat.mul_one,Nat.add_zero] at hx hcell
 exact⟨x,b,off,hx,ha,hb,hcell⟩
theorem VW(w:World)(AU:Value)(Bl:List Int)(AW:Aw 1 w AU Bl):Calls Tryz.prog 325 #[AU] w (Fz w (.bool (MR Bl))):=by
 obtain⟨a,cap,rfl,hcap,hm,ha⟩:=AW.one
 have HA:=Lib.hid ha
 clear ha
 unfold maxLen at hm
 by_cases h48:Bl.length<=48
 .
  go_enter Tryz.func325,Tryz.ntmps325
  go_wp2
  go_loopw [3] (fun i wr=>∃k:Nat,k<=Bl.length/\i=.int .i64 k/\Ext w wr/\Hid ((Bl.take k).all (fun x=>inb x 0 1000000000)=true)) (fun i _=>Bl.length - (intOf i).toNat)
  case atStart=>exact⟨0,Nat.zero_le _,rfl,Ext.refl _,Lib.hid (by simp)⟩
  case round =>
   obtain⟨k,hk,rfl,he,hp⟩:=hrel
   by_cases hlt:k<Bl.length
   .
    obtain⟨x,b1,o1,hx,rfl,_,c⟩:=HA.out k hlt
    have d0:=he.cell c
    have HX:=Lib.hid hx
    clear hx c
    cases hb:inb x 0 1000000000
    .
     go_wp2_with (first|(go_at_call 303;refine(wR _ _ _ _).mono ?_;rintro e w1 ⟨rfl,rfl⟩))
     go_ret
     exact⟨by rw[MR,MU HX.out (p:=fun x=>inb x 0 1000000000) hb];simp,he⟩
    go_wp2_with (first|(go_at_call 303;refine(wR _ _ _ _).mono ?_;rintro e w1 ⟨rfl,rfl⟩))
    go_roundw
    case rel=>exact⟨k+1,by omega,by go_num,he,Lib.hid (JH HX.out hp.out hb)⟩
    case measure=>simp[intOf];omega
   obtain rfl:k=Bl.length:=by omega
   go_wp2
   go_ret
   have hp':=hp.out
   rw[List.take_length] at hp'
   exact⟨by rw[MR,hp'];simp[h48],he⟩
 go_enter Tryz.func325,Tryz.ntmps325
 go_wp2
 go_ret
 exact⟨by rw[MR];simp[h48],Ext.refl _⟩
theorem UH(w:World)(AU:Value)(Bl:List Int)(AW:Aw 1 w AU Bl):Calls Tryz.prog 276 #[AU] w (Fz w (.bool (MR Bl))):=by
 obtain⟨a,cap,rfl,hcap,hm,ha⟩:=AW.one
 have HA:=Lib.hid ha
 clear ha
 unfold maxLen at hm
 by_cases h48:Bl.length<=48
 .
  go_enter Tryz.func276,Tryz.ntmps276
  go_wp2
  go_loopw [10] (fun i wr=>∃k:Nat,k<=Bl.length/\i=.int .i64 k/\Ext w wr/\Hid ((Bl.take k).all (fun x=>inb x 0 1000000000)=true)) (fun i _=>Bl.length - (intOf i).toNat)
  case atStart=>exact⟨0,Nat.zero_le _,rfl,Ext.refl _,Lib.hid (by simp)⟩
  case round =>
   obtain⟨k,hk,rfl,he,hp⟩:=hrel
   by_cases hlt:k<Bl.length
   .
    obtain⟨x,b1,o1,hx,rfl,_,c⟩:=HA.out k hlt
    have d0:=he.cell c
    have HX:=Lib.hid hx
    clear hx c
    cases hb:inb x 0 1000000000
    .
     go_wp2_with (first|(go_at_call 176;refine(Og _ _ _ _).mono ?_;rintro e w1 ⟨rfl,rfl⟩))
     go_ret
     exact⟨by rw[MR,MU HX.out (p:=fun x=>inb x 0 1000000000) hb];simp,he⟩
    go_wp2_with (first|(go_at_call 176;refine(Og _ _ _ _).mono ?_;rintro e w1 ⟨rfl,rfl⟩))
    go_roundw
    case rel=>exact⟨k+1,by omega,by go_num,he,Lib.hid (JH HX.out hp.out hb)⟩
    case measure=>simp[intOf];omega
   obtain rfl:k=Bl.length:=by omega
   go_wp2
   go_ret
   have hp':=hp.out
   rw[List.take_length] at hp'
   exact⟨by rw[MR,hp'];simp[h48],he⟩
 go_enter Tryz.func276,Tryz.ntmps276
 go_wp2
 go_ret
 exact⟨by rw[MR];simp[h48],Ext.refl _⟩
theorem cC5(w:World)(AU:Value)(Bl:List (List Int))(DL:Value)(Cq:List AG)(AL:Int)(AW:Ll 0 w AU (Bd Bl))(CH:Ll 1 w DL (Dq Cq)):Calls Tryz.prog 387 #[.agg #[AU,DL],.int .i64 AL] w (Fz w (.bool (inb AL 0 ((⟨Bl,Cq⟩:EI).Kept.length - 1)))):=by
 obtain⟨a0,cap0,rfl,hc0,hm0,-⟩:=AW.open_
 obtain⟨a1,n1,c1,rfl⟩:=CH.shape
 unfold maxLen at hm0
 have hl:(Bd Bl).length=Bl.length:=by simp[Bd]
 rw[hl] at hc0 ⊢
 clear hl
 go_enter Tryz.func387,Tryz.ntmps387
 go_wp2_with (first|(go_at_call 303;refine(wR _ _ _ _  ).mono ?_;rintro e wa ⟨rfl,rfl⟩))
 go_ret
 refine⟨rfl,?_⟩
 exact xT
theorem VH(w:World)(AU:Value)(Bl:List (List Int))(DL:Value)(Cq:List AG)(AL:Int)(AW:Ll 0 w AU (Bd Bl))(CH:Ll 1 w DL (Dq Cq)):Calls Tryz.prog 292 #[.agg #[AU,DL],.int .i64 AL] w (Fz w (.bool (inb AL 0 ((⟨Bl,Cq⟩:EI).Kept.length - 1)))):=by
 obtain⟨a0,cap0,rfl,hc0,hm0,-⟩:=AW.open_
 obtain⟨a1,n1,c1,rfl⟩:=CH.shape
 unfold maxLen at hm0
 have hl:(Bd Bl).length=Bl.length:=by simp[Bd]
 rw[hl] at hc0 ⊢
 clear hl
 go_enter Tryz.func292,Tryz.ntmps292
 go_wp2_with (first|(go_at_call 176;refine(Og _ _ _ _  ).mono ?_;rintro e wa ⟨rfl,rfl⟩))
 go_ret
 refine⟨rfl,?_⟩
 exact xT
theorem cC6{l:List (List Int)}{k:Nat}{r:wK}(h:(Bd l)[k]?=some r):l[k]?=some r.2:=by
 simp only[Bd,List.getElem?_map,Option.map_eq_some_iff] at h
 obtain⟨x,hx,rfl⟩:=h
 exact hx
theorem bN7{l:List AG}{k:Nat}{r:wK}(h:(Dq l)[k]?=some r):∃d,l[k]?=some d/\r=([d.At],d.Row):=by
 simp only[Dq,List.getElem?_map,Option.map_eq_some_iff] at h
 obtain⟨x,hx,rfl⟩:=h
 exact⟨x,hx,rfl⟩
theorem Ll.rows{w:World}{v:Value}{l:List (List Int)}(h:Ll 0 w v (Bd l)):∃a cap,v=.slice a l.length cap/\l.length<=cap/\cap<=maxLen /\
  ∀i,i<l.length->∃r b off sa sn sc,l[i]?=some r/\a=some ⟨b,off,none⟩/\b<w.heap.size/\w.cell? ⟨b,off+i,none⟩=some (.slice sa sn sc)/\Aw 1 w (.slice sa sn sc) r:=by
 obtain⟨a,cap,rfl,h1,h2,h3⟩:=h.open_
 have hl:(Bd l).length=l.length:=by simp[Bd]
 rw[hl] at h1 h3 ⊢
 refine⟨a,cap,rfl,h1,h2,fun i hi=>?_⟩
 obtain⟨r,b,off,s,hr,ha,hb,_,hc,hin⟩:=h3 i hi
 obtain⟨sa,sn,sc,rfl⟩:=hin.shape
 exact⟨r.2,b,off,sa,sn,sc,cC6 hr,ha,hb,by simpa using hc,hin⟩
theorem Ll.writes{w:World}{v:Value}{l:List AG}(h:Ll 1 w v (Dq l)):∃a cap,v=.slice a l.length cap/\l.length<=cap/\cap<=maxLen /\
  ∀i,i<l.length->∃d b off sa sn sc,l[i]?=some d/\a=some ⟨b,off,none⟩/\b<w.heap.size/\w.cell? ⟨b,off+i*2,none⟩=some (.int .i64 d.At)/\w.cell? ⟨b,off+i*2+1,none⟩=some (.slice sa sn sc)/\Aw 1 w (.slice sa sn sc) d.Row:=by
 obtain⟨a,cap,rfl,h1,h2,h3⟩:=h.open_
 have hl:(Dq l).length=l.length:=by simp[Dq]
 rw[hl] at h1 h3 ⊢
 refine⟨a,cap,rfl,h1,h2,fun i hi=>?_⟩
 obtain⟨r,b,off,s,hr,ha,hb,hci,hc,hin⟩:=h3 i hi
 obtain⟨d,hd,rfl⟩:=bN7 hr
 obtain⟨sa,sn,sc,rfl⟩:=hin.shape
 have h0:=hci 0 d.At rfl
 simp only[Nat.add_zero,Nat.reduceAdd] at h0 hc
 exact⟨d,b,off,sa,sn,sc,hd,ha,hb,h0,hc,hin⟩
theorem ZT(n:Nat):AS (Bd (List.replicate n [])) (List.replicate n (.slice none 0 0))=List.replicate n (.slice none 0 0):=by
 induction n with
 | zero=>rfl
 | succ n ih =>
  simp only[List.replicate_succ,Bd,AS,List.map_cons,List.zip_cons_cons,List.flatMap_cons] at ih ⊢
  rw[ih]
  simp[DV]
theorem Px.nil(B:Nat)(e e1:TypeId)(n:Nat)(w:World):Px B e e1 n w (.slice none 0 0) [] [] :=
 ⟨fun r h=>by simp at h,rfl,⟨0,by simp[AS],.inl ⟨rfl,rfl⟩⟩,⟨fun i s r h=>by simp at h,fun i j s t k _ h=>by simp at h,fun i s k h=>by simp at h⟩⟩
theorem Px.made(w:World)(e e1:TypeId)(n:Nat)(hn:n<=40):Px w.heap.size e e1 0 (w.alloc (.cells (madeCells #[.slice none 0 0] n) e)) (.slice (some ⟨w.heap.size,0,none⟩) n n) (Bd (List.replicate n [])) (List.replicate n (.slice none 0 0)):=by
 have hrep:∀(i:Nat) (s:Value),(List.replicate n (Value.slice none 0 0))[i]?=some s->s=.slice none 0 0:=by
  intro i s h
  exact List.eq_of_mem_replicate (List.mem_of_getElem? h)
 have hft:∀k,k ∈ Ep [Value.slice none 0 0]->False:=by simp[Ep,Value.ownBlock]
 refine⟨fun r h=>by simp[Bd] at h;simp[h],by simp[Bd],Own.of_blk (cap:=n) (Blk.new _ _ _) (Nat.le_refl _) (by simp[size_madeCells]) (by rw[ZT];simp) (Nat.le_refl _) (by unfold maxLen;omega) ?_,⟨fun i s r h1 h2=>?_,fun i j s t k _ h1 h2 h3=>?_,fun i s k h1 h3=>?_⟩⟩
 .
  rw[ZT]
  intro j hj
  have hj':j<n:=by omega
  simp[madeCells,hj',Nat.mod_one]
 .
  rw[hrep i s h1]
  have:r.2=[]:=by
   have:=List.mem_of_getElem? h2
   simp[Bd] at this
   simp[this]
  rw[this]
  exact Ba.nil _ _ _ _
 .
  rw[hrep i s h1] at h3;exact(hft k h3).elim
 rw[hrep i s h1] at h3;exact(hft k h3).elim
def IJ(B:Nat)(w:World)(v:Value)(d:EI):Prop:=∃t0 t1:Value,∃ss0 ss1:List Value,v=.agg #[t0,t1]/\Px B 62 2 0 w t0 (Bd d.Kept) ss0/\Px B 312 2 1 w t1 (Dq d.Wait) ss1/\(∀k,k ∈ Ep (t0::ss0)->k ∈ Ep (t1::ss1)->False)
theorem bN8(w:World)(x0 x1:Int):Calls Tryz.prog 334 #[.agg #[.int .i64 x0,.int .i64 x1]] w (Fz w (.agg #[.int .i64 x0,.int .i64 x1])):=by
 go_enter Tryz.func334,Tryz.ntmps334
 go_wp2
 refine bodyPost_ret (v:=.agg #[.int .i64 x0,.int .i64 x1]) (by simp[results,Tryz.results334,go_sem]) rfl ⟨rfl,?_⟩
 exact xT
theorem bE3(w:World)(v:Value)(xs:List Int)(L:Nat)(hL:xs.length=L*2)(h:Aw 2 w v xs)(hs:L<=1048576):Calls Tryz.prog 230 #[v] w (Ret w fun v' w'=>Ba w.heap.size 362 2 w' v' xs):=by
 obtain⟨a,len,ca,rfl,hl,hca,hm,ha⟩:=h.open_
 obtain rfl:L=len:=by omega
 have HA:=Lib.hid ha;have HL:=Lib.hid hl
 clear ha hl hL
 unfold maxLen at hm
 obtain⟨i0,hi,hz0,hz1,hz2⟩:=info_parts bD7
 go_enter Tryz.func230,Tryz.ntmps230
 have hmk:=fun W=>run_make (P:=Tryz.prog) W 82 362 i0 _ Tryz.underlying82 hi hz0 .i64 .i64 L L oM oM (by rw[hz2];omega) oM
 simp only[Int.toNat_natCast,hz1] at hmk
 go_wp2
 clear hmk
 go_loopw [4] (fun i wr=>∃k:Nat,k<=L/\i=.int .i64 k/\Ext w wr/\∃cur,Blk wr w.heap.size 362 cur/\cur.size=L*2/\Pre cur (k*2) (xs.map (.int .i64))) (fun i _=>L - (intOf i).toNat)
 case atStart=>exact⟨0,Nat.zero_le _,rfl,(Ext.refl _).alloc _,_,Blk.new _ _ _,by simp[size_madeCells],by simpa using Pre.zero _ _⟩
 case round =>
  obtain⟨k,hk,rfl,he,cur,hblk,hsz,hpre⟩:=hrel
  by_cases hlt:k<L
  .
   obtain⟨b1,o1,rfl,_,c1⟩:=HA.out k hlt
   obtain⟨x0,hx0,c10⟩:=c1 0 oM
   obtain⟨x1,hx1,c11⟩:=c1 1 oM
   have d0:=he.cell c10;have d1:=he.cell c11
   simp only[Nat.add_zero] at d0
   clear c1 c10 c11
   have HX0:=Lib.hid hx0;have HX1:=Lib.hid hx1
   have HS:=Lib.hid hsz
   clear hx0 hx1 hsz
   go_wp2_with (first|(go_at_call 334;refine(bN8 _ _ _).mono ?_;rintro e w1 ⟨rfl,hx⟩;have hb1:=hblk.ext hx;obtain⟨z0,g0⟩:∃z,w1.cell? ⟨w.heap.size,k*2,none⟩=some z:=⟨_,by rw[hb1.cell];exact Array.getElem?_eq_getElem (by have:=HS.out;omega)⟩;obtain⟨z1,g1⟩:∃z,w1.cell? ⟨w.heap.size,k*2+1,none⟩=some z:=⟨_,by rw[hb1.cell];exact Array.getElem?_eq_getElem (by have:=HS.out;omega)⟩;have f0:=hb1.frozen (k*2);have f1:=hb1.frozen (k*2+1)))
   go_roundw
   case rel=>exact⟨k+1,by omega,by go_num,(((he.trans hx).setCell (Nat.le_refl _) _).setCell (Nat.le_refl _) _),_,((hb1.set_ _ _).set_ _ _),by simp;exact HS.out,((hpre.set (by simpa using HX0.out) (by have:=HS.out;omega)).set (by simpa using HX1.out) (by have:=HS.out;simp;omega)).cast oM⟩
   case measure=>simp[intOf];omega
  obtain rfl:k=L:=by omega
  go_wp2
  go_ret
  exact⟨_,rfl,he,Own.of_blk hblk (Nat.le_refl _) hsz (by simpa using HL.out) (Nat.le_refl _) (by unfold maxLen;omega) hpre⟩
theorem bE4(w:World)(v:Value)(xs:List Int)(L:Nat)(hL:xs.length=L*2)(left:Int)(h:Aw 2 w v xs)(h0:0<=left)(h1:left<=1048576):Calls Tryz.prog 203 #[v,.int .i64 left] w (Ret w fun v' _=>SzR left L v'):=by
 obtain⟨a,len,ca,rfl,hl,hca,hm,-⟩:=h.open_
 obtain rfl:L=len:=by omega
 clear h hl hL
 unfold maxLen at hm
 by_cases hlt:left<L
 .
  have ht:decide (left - (L:Int)<0)=true:=by simp;omega
  go_enter Tryz.func203,Tryz.ntmps203
  go_wp2
  go_ret
  exact⟨_,rfl,Ext.refl _,.inl ⟨rfl,hlt⟩⟩
 have ht:decide (left - (L:Int)<0)=false:=by simp;omega
 go_enter Tryz.func203,Tryz.ntmps203
 go_wp2
 go_ret
 exact⟨_,rfl,Ext.refl _,.inr ⟨rfl,by omega⟩⟩
theorem cC7(w:World)(x0 x1 x2 x3 x4:Int):Calls Tryz.prog 335 #[.agg #[.int .i64 x0,.int .i64 x1,.int .i64 x2,.int .i64 x3,.int .i64 x4]] w (Fz w (.agg #[.int .i64 x0,.int .i64 x1,.int .i64 x2,.int .i64 x3,.int .i64 x4])):=by
 go_enter Tryz.func335,Tryz.ntmps335
 go_wp2
 refine bodyPost_ret (v:=.agg #[.int .i64 x0,.int .i64 x1,.int .i64 x2,.int .i64 x3,.int .i64 x4]) (by simp[results,Tryz.results335,go_sem]) rfl ⟨rfl,?_⟩
 exact xT
theorem bN9(w:World)(v:Value)(xs:List Int)(L:Nat)(hL:xs.length=L*5)(h:Aw 5 w v xs)(hs:L<=1048576):Calls Tryz.prog 231 #[v] w (Ret w fun v' w'=>Ba w.heap.size 366 5 w' v' xs):=by
 obtain⟨a,len,ca,rfl,hl,hca,hm,ha⟩:=h.open_
 obtain rfl:L=len:=by omega
 have HA:=Lib.hid ha;have HL:=Lib.hid hl
 clear ha hl hL
 unfold maxLen at hm
 obtain⟨i0,hi,hz0,hz1,hz2⟩:=info_parts bN5
 go_enter Tryz.func231,Tryz.ntmps231
 have hmk:=fun W=>run_make (P:=Tryz.prog) W 83 366 i0 _ Tryz.underlying83 hi hz0 .i64 .i64 L L oM oM (by rw[hz2];omega) oM
 simp only[Int.toNat_natCast,hz1] at hmk
 go_wp2
 clear hmk
 go_loopw [4] (fun i wr=>∃k:Nat,k<=L/\i=.int .i64 k/\Ext w wr/\∃cur,Blk wr w.heap.size 366 cur/\cur.size=L*5/\Pre cur (k*5) (xs.map (.int .i64))) (fun i _=>L - (intOf i).toNat)
 case atStart=>exact⟨0,Nat.zero_le _,rfl,(Ext.refl _).alloc _,_,Blk.new _ _ _,by simp[size_madeCells],by simpa using Pre.zero _ _⟩
 case round =>
  obtain⟨k,hk,rfl,he,cur,hblk,hsz,hpre⟩:=hrel
  by_cases hlt:k<L
  .
   obtain⟨b1,o1,rfl,_,c1⟩:=HA.out k hlt
   obtain⟨x0,hx0,c10⟩:=c1 0 oM
   obtain⟨x1,hx1,c11⟩:=c1 1 oM
   obtain⟨x2,hx2,c12⟩:=c1 2 oM
   obtain⟨x3,hx3,c13⟩:=c1 3 oM
   obtain⟨x4,hx4,c14⟩:=c1 4 oM
   have d0:=he.cell c10;have d1:=he.cell c11;have d2:=he.cell c12;have d3:=he.cell c13;have d4:=he.cell c14
   simp only[Nat.add_zero] at d0
   clear c1 c10 c11 c12 c13 c14
   have HX0:=Lib.hid hx0;have HX1:=Lib.hid hx1;have HX2:=Lib.hid hx2;have HX3:=Lib.hid hx3;have HX4:=Lib.hid hx4
   have HS:=Lib.hid hsz
   clear hx0 hx1 hx2 hx3 hx4 hsz
   go_wp2_with (first|(go_at_call 335;refine(cC7 _ _ _ _ _ _).mono ?_;rintro e w1 ⟨rfl,hx⟩;have hb1:=hblk.ext hx;obtain⟨z0,g0⟩:∃z,w1.cell? ⟨w.heap.size,k*5,none⟩=some z:=⟨_,by rw[hb1.cell];exact Array.getElem?_eq_getElem (by have:=HS.out;omega)⟩;obtain⟨z1,g1⟩:∃z,w1.cell? ⟨w.heap.size,k*5+1,none⟩=some z:=⟨_,by rw[hb1.cell];exact Array.getElem?_eq_getElem (by have:=HS.out;omega)⟩;obtain⟨z2,g2⟩:∃z,w1.cell? ⟨w.heap.size,k*5+2,none⟩=some z:=⟨_,by rw[hb1.cell];exact Array.getElem?_eq_getElem (by have:=HS.out;omega)⟩;obtain⟨z3,g3⟩:∃z,w1.cell? ⟨w.heap.size,k*5+3,none⟩=some z:=⟨_,by rw[hb1.cell];exact Array.getElem?_eq_getElem (by have:=HS.out;omega)⟩;obtain⟨z4,g4⟩:∃z,w1.cell? ⟨w.heap.size,k*5+4,none⟩=some z:=⟨_,by rw[hb1.cell];exact Array.getElem?_eq_getElem (by have:=HS.out;omega)⟩;have f0:=hb1.frozen (k*5);have f1:=hb1.frozen (k*5+1);have f2:=hb1.frozen (k*5+2);have f3:=hb1.frozen (k*5+3);have f4:=hb1.frozen (k*5+4)))
   go_roundw
   case rel=>exact⟨k+1,by omega,by go_num,((((((he.trans hx).setCell (Nat.le_refl _) _).setCell (Nat.le_refl _) _).setCell (Nat.le_refl _) _).setCell (Nat.le_refl _) _).setCell (Nat.le_refl _) _),_,(((((hb1.set_ _ _).set_ _ _).set_ _ _).set_ _ _).set_ _ _),by simp;exact HS.out,(((((hpre.set (by simpa using HX0.out) (by have:=HS.out;omega)).set (by simpa using HX1.out) (by have:=HS.out;simp;omega)).set (by simpa using HX2.out) (by have:=HS.out;simp;omega)).set (by simpa using HX3.out) (by have:=HS.out;simp;omega)).set (by simpa using HX4.out) (by have:=HS.out;simp;omega)).cast oM⟩
   case measure=>simp[intOf];omega
  obtain rfl:k=L:=by omega
  go_wp2
  go_ret
  exact⟨_,rfl,he,Own.of_blk hblk (Nat.le_refl _) hsz (by simpa using HL.out) (Nat.le_refl _) (by unfold maxLen;omega) hpre⟩
theorem bO0(w:World)(v:Value)(xs:List Int)(L:Nat)(hL:xs.length=L*5)(left:Int)(h:Aw 5 w v xs)(h0:0<=left)(h1:left<=1048576):Calls Tryz.prog 204 #[v,.int .i64 left] w (Ret w fun v' _=>SzR left L v'):=by
 obtain⟨a,len,ca,rfl,hl,hca,hm,-⟩:=h.open_
 obtain rfl:L=len:=by omega
 clear h hl hL
 unfold maxLen at hm
 by_cases hlt:left<L
 .
  have ht:decide (left - (L:Int)<0)=true:=by simp;omega
  go_enter Tryz.func204,Tryz.ntmps204
  go_wp2
  go_ret
  exact⟨_,rfl,Ext.refl _,.inl ⟨rfl,hlt⟩⟩
 have ht:decide (left - (L:Int)<0)=false:=by simp;omega
 go_enter Tryz.func204,Tryz.ntmps204
 go_wp2
 go_ret
 exact⟨_,rfl,Ext.refl _,.inr ⟨rfl,by omega⟩⟩
theorem bE5(w:World)(x0 x1 x2:Int):Calls Tryz.prog 232 #[.agg #[.int .i64 x0,.int .i64 x1,.int .i64 x2]] w (Fz w (.agg #[.int .i64 x0,.int .i64 x1,.int .i64 x2])):=by
 go_enter Tryz.func232,Tryz.ntmps232
 go_wp2
 refine bodyPost_ret (v:=.agg #[.int .i64 x0,.int .i64 x1,.int .i64 x2]) (by simp[results,Tryz.results232,go_sem]) rfl ⟨rfl,?_⟩
 exact xT
theorem bE6(w:World)(c0:Int)(c1:Int)(s2:Value)(d2:List Int)(L2:Nat)(hL2:d2.length=L2*2)(s3:Value)(d3:List Int)(L3:Nat)(hL3:d3.length=L3*5)(c4:Int)(c5:Int)(c6:Int)(h2:Aw 2 w s2 d2)(hs2:L2<=1048576)(h3:Aw 5 w s3 d3)(hs3:L3<=1048576):Calls Tryz.prog 125 #[.agg #[.int .i64 c0,.int .i64 c1,s2,s3,.int .i64 c4,.int .i64 c5,.int .i64 c6]] w (Ret w fun v w'=>∃t2 t3:Value,v=.agg #[.int .i64 c0,.int .i64 c1,t2,t3,.int .i64 c4,.int .i64 c5,.int .i64 c6]/\Ba w.heap.size 362 2 w' t2 d2/\Ba w.heap.size 366 5 w' t3 d3):=by
 go_enter Tryz.func125,Tryz.ntmps125
 go_wp2_with (first|(go_at_call 230;refine(bE3 _ s2 d2 L2 hL2 (h2.ext xT) hs2).mono ?_;rintro e w1 ⟨t2,rfl,hx1,g2⟩;obtain⟨ta2,tn2,tc2,rfl⟩:=g2.shape;have hz1:=hx1.size;obtain⟨hc1,hf1⟩:=hx1.cells;(repeat (first|simp only[World.size_alloc] at hz1 hc1 hf1 g2|simp only[World.size_setCell] at hz1 hc1 hf1 g2));have JJ:w.heap.size<w1.heap.size:=oM;have PP:w.heap.size+1<w1.heap.size:=oM;have aC9:w.heap.size+1+1<w1.heap.size:=oM)|(go_at_call 231;refine(bN9 _ s3 d3 L3 hL3 (h3.ext xT) hs3).mono ?_;rintro e w2 ⟨t3,rfl,hx2,g3⟩;obtain⟨ta3,tn3,tc3,rfl⟩:=g3.shape;have hz2:=hx2.size;obtain⟨hc2,hf2⟩:=hx2.cells;(repeat (first|simp only[World.size_alloc] at hz2 hc2 hf2 g3|simp only[World.size_setCell] at hz2 hc2 hf2 g3));have VC:w.heap.size<w2.heap.size:=oM;have aD0:w.heap.size+1<w2.heap.size:=oM;have bZ4:w.heap.size+1+1<w2.heap.size:=oM)|(go_at_call 232;refine(bE5 _ c4 c5 c6).mono ?_;rintro e w3 ⟨rfl,hx3⟩;have hz3:=hx3.size;obtain⟨hc3,hf3⟩:=hx3.cells;(repeat (first|simp only[World.size_alloc] at hz3 hc3 hf3|simp only[World.size_setCell] at hz3 hc3 hf3));have cP2:w.heap.size<w3.heap.size:=oM;have cP3:w.heap.size+1<w3.heap.size:=oM;have cX5:w.heap.size+1+1<w3.heap.size:=oM))
 refine bodyPost_ret (v:=.agg #[.int .i64 c0,.int .i64 c1,.slice ta2 tn2 tc2,.slice ta3 tn3 tc3,.int .i64 c4,.int .i64 c5,.int .i64 c6]) ?_ rfl ?_
 .
  simp[results,Tryz.results125,go_sem, *]
 refine⟨_,rfl,?_,_,_,rfl,(g2.keep ?_).mono ?_,(g3.keep ?_).mono ?_⟩
 all_goals clear hc1 hf1 hc2 hf2 hc3 hf3
 .
  exact xT
 .
  repeat' (first|(with_reducible exact Chg.refl _ _)|(with_reducible refine Chg.drewN ?_ _)|(with_reducible refine Chg.drew ?_)|(with_reducible refine Chg.alloc ?_ _)|(with_reducible refine Chg.setLow ?_ ?_ _)|(with_reducible refine Chg.ext ?_ (by assumption))|omega)
 .
  omega
 .
  repeat' (first|(with_reducible exact Chg.refl _ _)|(with_reducible refine Chg.drewN ?_ _)|(with_reducible refine Chg.drew ?_)|(with_reducible refine Chg.alloc ?_ _)|(with_reducible refine Chg.setLow ?_ ?_ _)|(with_reducible refine Chg.ext ?_ (by assumption))|omega)
 omega
theorem bE7(w:World)(c0:Int)(c1:Int)(s2:Value)(d2:List Int)(L2:Nat)(hL2:d2.length=L2*2)(s3:Value)(d3:List Int)(L3:Nat)(hL3:d3.length=L3*5)(c4:Int)(c5:Int)(c6:Int)(left:Int)(h2:Aw 2 w s2 d2)(h3:Aw 5 w s3 d3)(h0:0<=left)(h1:left<=1048576):Calls Tryz.prog 102 #[.agg #[.int .i64 c0,.int .i64 c1,s2,s3,.int .i64 c4,.int .i64 c5,.int .i64 c6],.int .i64 left] w (Ret w fun v' _=>SzR left (L2+L3) v'):=by
 go_enter Tryz.func102,Tryz.ntmps102
 go_wp2_with (first|(go_at_call 203;refine(bE4 _ s2 d2 L2 hL2 _ (h2.ext xT) oM oM).mono ?_;rintro e w1 ⟨v1,rfl,hx1,hv⟩;have hz1:=hx1.size;obtain⟨hc1,hf1⟩:=hx1.cells;(repeat (first|simp only[World.size_alloc] at hz1 hc1 hf1|simp only[World.size_setCell] at hz1 hc1 hf1));have JJ:w.heap.size<w1.heap.size:=oM;rcases hv with⟨rfl,q1⟩|⟨rfl,q1⟩)|(go_at_call 204;refine(bO0 _ s3 d3 L3 hL3 _ (h3.ext xT) oM oM).mono ?_;rintro e w2 ⟨v2,rfl,hx2,hv⟩;have hz2:=hx2.size;obtain⟨hc2,hf2⟩:=hx2.cells;(repeat (first|simp only[World.size_alloc] at hz2 hc2 hf2|simp only[World.size_setCell] at hz2 hc2 hf2));have VC:w.heap.size<w2.heap.size:=oM;rcases hv with⟨rfl,q2⟩|⟨rfl,q2⟩))
 all_goals
  go_ret
  refine⟨_,rfl,?_,?_⟩
  .
   exact xT
  first|exact .inl ⟨rfl,by omega⟩|(refine .inr ⟨congrArg (Value.int .i64) ?_,?_⟩ <;> omega)
end Go.Proofs.YtkpmbocbbgocbaaGreat
