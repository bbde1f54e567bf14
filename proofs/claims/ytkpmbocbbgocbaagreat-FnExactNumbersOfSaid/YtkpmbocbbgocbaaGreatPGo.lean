/- HelpI DC DD DD2 DD3 OD. -/
import Derived.Test.YtkpmbocbbgocbaaGreatPGj
set_option linter.unusedSimpArgs false
set_option linter.unusedVariables false
set_option maxHeartbeats 8000000
set_option maxRecDepth 100000
namespace Go.Proofs.YtkpmbocbbgocbaaGreat
open Go.RowKit Go.G8
theorem aW2:(Tryz.prog.info? 281).map (fun i=>(i.zero,i.size,i.bytes))=some (some (.agg #[.int .i64 0,.int .i64 0,.int .i64 0,.int .i64 0,.int .i64 0,.int .i64 0,.int .i64 0,.int .i64 0,.int .i64 0]),9,72):=by kernel_rfl
theorem bG9(w:World)(x0 x1 x2 x3 x4 x5 x6 x7 x8:Int):Calls Tryz.prog 332 #[.agg #[.int .i64 x0,.int .i64 x1,.int .i64 x2,.int .i64 x3,.int .i64 x4,.int .i64 x5,.int .i64 x6,.int .i64 x7,.int .i64 x8]] w (Fz w (.agg #[.int .i64 x0,.int .i64 x1,.int .i64 x2,.int .i64 x3,.int .i64 x4,.int .i64 x5,.int .i64 x6,.int .i64 x7,.int .i64 x8])):=by
 obtain⟨W1,hW1⟩:∃W1,W1=((w.alloc (.cells #[.int .i64 x0,.int .i64 x1,.int .i64 x2,.int .i64 x3,.int .i64 x4,.int .i64 x5,.int .i64 x6,.int .i64 x7,.int .i64 x8] 359)).alloc (.cells #[.int .i64 0,.int .i64 0,.int .i64 0,.int .i64 0,.int .i64 0,.int .i64 0,.int .i64 0,.int .i64 0,.int .i64 0] 281)).alloc (.cells #[.int .i64 x0,.int .i64 x1,.int .i64 x2,.int .i64 x3,.int .i64 0,.int .i64 0,.int .i64 0,.int .i64 0,.int .i64 0] 281):=⟨_,rfl⟩
 have E1:Ext w W1:=by rw[hW1];exact(((Ext.refl _).alloc _).alloc _).alloc _
 have KR1:Blk W1 (w.heap.size+1) 281 #[.int .i64 0,.int .i64 0,.int .i64 0,.int .i64 0,.int .i64 0,.int .i64 0,.int .i64 0,.int .i64 0,.int .i64 0]:=by rw[hW1];exact Blk.alloc (by have:=Blk.new (w.alloc (.cells #[.int .i64 x0,.int .i64 x1,.int .i64 x2,.int .i64 x3,.int .i64 x4,.int .i64 x5,.int .i64 x6,.int .i64 x7,.int .i64 x8] 359)) 281 #[.int .i64 0,.int .i64 0,.int .i64 0,.int .i64 0,.int .i64 0,.int .i64 0,.int .i64 0,.int .i64 0,.int .i64 0];rwa [World.size_alloc] at this) _
 have KT1:Blk W1 (w.heap.size+1+1) 281 #[.int .i64 x0,.int .i64 x1,.int .i64 x2,.int .i64 x3,.int .i64 0,.int .i64 0,.int .i64 0,.int .i64 0,.int .i64 0]:=by rw[hW1];have:=Blk.new ((w.alloc (.cells #[.int .i64 x0,.int .i64 x1,.int .i64 x2,.int .i64 x3,.int .i64 x4,.int .i64 x5,.int .i64 x6,.int .i64 x7,.int .i64 x8] 359)).alloc (.cells #[.int .i64 0,.int .i64 0,.int .i64 0,.int .i64 0,.int .i64 0,.int .i64 0,.int .i64 0,.int .i64 0,.int .i64 0] 281)) 281 #[.int .i64 x0,.int .i64 x1,.int .i64 x2,.int .i64 x3,.int .i64 0,.int .i64 0,.int .i64 0,.int .i64 0,.int .i64 0];rwa [World.size_alloc,World.size_alloc] at this
 have HW1:=Lib.hid hW1
 clear hW1
 go_enter Tryz.func332,Tryz.ntmps332
 go_wp2_with fail
 rw[<-HW1.out]
 refine(aT5 _ x4 x5 x6 x7 x8).mono ?_
 rintro e w1⟨rfl,hx1⟩
 have E2:=E1.trans hx1
 have KR2:=KR1.ext hx1;have KT2:=KT1.ext hx1
 have CR2:=KR2.cell;have FR2:=KR2.frozen;have LR2:=KR2.lt;have CT2:=KT2.cell;have FT2:=KT2.frozen;have LT2:=KT2.lt
 go_wp2_with fail
 refine bodyPost_ret (by simp[results,Tryz.results332,go_sem,CR2,FR2,LR2];try rfl) rfl ⟨rfl,?_⟩
 exact xT
theorem aW3(w:World)(v:Value)(xs:List Int)(L:Nat)(hL:xs.length=L*9)(h:Aw 9 w v xs)(hs:L<=1048576):Calls Tryz.prog 225 #[v] w (Ret w fun v' w'=>Ba w.heap.size 281 9 w' v' xs):=by
 obtain⟨a,len,ca,rfl,hl,hca,hm,ha⟩:=h.open_
 obtain rfl:L=len:=by omega
 have HA:=Lib.hid ha;have HL:=Lib.hid hl
 clear ha hl hL
 unfold maxLen at hm
 obtain⟨i0,hi,hz0,hz1,hz2⟩:=info_parts aW2
 go_enter Tryz.func225,Tryz.ntmps225
 have hmk:=fun W=>run_make (P:=Tryz.prog) W 76 281 i0 _ Tryz.underlying76 hi hz0 .i64 .i64 L L oM oM (by rw[hz2];omega) oM
 simp only[Int.toNat_natCast,hz1] at hmk
 go_wp2
 clear hmk
 go_loopw [4] (fun i wr=>∃k:Nat,k<=L/\i=.int .i64 k/\Ext w wr/\∃cur,Blk wr w.heap.size 281 cur/\cur.size=L*9/\Pre cur (k*9) (xs.map (.int .i64))) (fun i _=>L - (intOf i).toNat)
 case atStart=>exact⟨0,Nat.zero_le _,rfl,(Ext.refl _).alloc _,_,Blk.new _ _ _,by simp[size_madeCells],by simpa using Pre.zero _ _⟩
 case round =>
  obtain⟨k,hk,rfl,he,cur,hblk,hsz,hpre⟩:=hrel
  by_cases hlt:k<L
  .
   obtain⟨b1,o1,rfl,_,c1⟩:=HA.out k hlt
   obtain⟨x0,hx0,c10⟩:=c1 0 oM
   obtain⟨x1,hx1,c11⟩:=c1 1 oM
   obtain⟨x2,hx2,c12⟩:=c1 2 oM
   obtain⟨x3,hx3,c13⟩:=c1 3 oM
   obtain⟨x4,hx4,c14⟩:=c1 4 oM
   obtain⟨x5,hx5,c15⟩:=c1 5 oM
   obtain⟨x6,hx6,c16⟩:=c1 6 oM
   obtain⟨x7,hx7,c17⟩:=c1 7 oM
   obtain⟨x8,hx8,c18⟩:=c1 8 oM
   have d0:=he.cell c10;have d1:=he.cell c11;have d2:=he.cell c12;have d3:=he.cell c13;have d4:=he.cell c14;have d5:=he.cell c15;have d6:=he.cell c16;have d7:=he.cell c17;have d8:=he.cell c18
   simp only[Nat.add_zero] at d0
   clear c1 c10 c11 c12 c13 c14 c15 c16 c17 c18
   have HX0:=Lib.hid hx0;have HX1:=Lib.hid hx1;have HX2:=Lib.hid hx2;have HX3:=Lib.hid hx3;have HX4:=Lib.hid hx4;have HX5:=Lib.hid hx5;have HX6:=Lib.hid hx6;have HX7:=Lib.hid hx7;have HX8:=Lib.hid hx8
   have HS:=Lib.hid hsz
   clear hx0 hx1 hx2 hx3 hx4 hx5 hx6 hx7 hx8 hsz
   go_wp2_with (first|(go_at_call 332;refine(bG9 _ _ _ _ _ _ _ _ _ _).mono ?_;rintro e w1 ⟨rfl,hx⟩;have hb1:=hblk.ext hx;obtain⟨z0,g0⟩:∃z,w1.cell? ⟨w.heap.size,k*9,none⟩=some z:=⟨_,by rw[hb1.cell];exact Array.getElem?_eq_getElem (by have:=HS.out;omega)⟩;obtain⟨z1,g1⟩:∃z,w1.cell? ⟨w.heap.size,k*9+1,none⟩=some z:=⟨_,by rw[hb1.cell];exact Array.getElem?_eq_getElem (by have:=HS.out;omega)⟩;obtain⟨z2,g2⟩:∃z,w1.cell? ⟨w.heap.size,k*9+2,none⟩=some z:=⟨_,by rw[hb1.cell];exact Array.getElem?_eq_getElem (by have:=HS.out;omega)⟩;obtain⟨z3,g3⟩:∃z,w1.cell? ⟨w.heap.size,k*9+3,none⟩=some z:=⟨_,by rw[hb1.cell];exact Array.getElem?_eq_getElem (by have:=HS.out;omega)⟩;obtain⟨z4,g4⟩:∃z,w1.cell? ⟨w.heap.size,k*9+4,none⟩=some z:=⟨_,by rw[hb1.cell];exact Array.getElem?_eq_getElem (by have:=HS.out;omega)⟩;obtain⟨z5,g5⟩:∃z,w1.cell? ⟨w.heap.size,k*9+5,none⟩=some z:=⟨_,by rw[hb1.cell];exact Array.getElem?_eq_getElem (by have:=HS.out;omega)⟩;obtain⟨z6,g6⟩:∃z,w1.cell? ⟨w.heap.size,k*9+6,none⟩=some z:=⟨_,by rw[hb1.cell];exact Array.getElem?_eq_getElem (by have:=HS.out;omega)⟩;obtain⟨z7,g7⟩:∃z,w1.cell? ⟨w.heap.size,k*9+7,none⟩=some z:=⟨_,by rw[hb1.cell];exact Array.getElem?_eq_getElem (by have:=HS.out;omega)⟩;obtain⟨z8,g8⟩:∃z,w1.cell? ⟨w.heap.size,k*9+8,none⟩=some z:=⟨_,by rw[hb1.cell];exact Array.getElem?_eq_getElem (by have:=HS.out;omega)⟩;have f0:=hb1.frozen (k*9);have f1:=hb1.frozen (k*9+1);have f2:=hb1.frozen (k*9+2);have f3:=hb1.frozen (k*9+3);have f4:=hb1.frozen (k*9+4);have f5:=hb1.frozen (k*9+5);have f6:=hb1.frozen (k*9+6);have f7:=hb1.frozen (k*9+7);have f8:=hb1.frozen (k*9+8)))
   go_roundw
   case rel=>exact⟨k+1,by omega,by go_num,((((((((((he.trans hx).setCell (Nat.le_refl _) _).setCell (Nat.le_refl _) _).setCell (Nat.le_refl _) _).setCell (Nat.le_refl _) _).setCell (Nat.le_refl _) _).setCell (Nat.le_refl _) _).setCell (Nat.le_refl _) _).setCell (Nat.le_refl _) _).setCell (Nat.le_refl _) _),_,(((((((((hb1.set_ _ _).set_ _ _).set_ _ _).set_ _ _).set_ _ _).set_ _ _).set_ _ _).set_ _ _).set_ _ _),by simp;exact HS.out,(((((((((hpre.set (by simpa using HX0.out) (by have:=HS.out;omega)).set (by simpa using HX1.out) (by have:=HS.out;simp;omega)).set (by simpa using HX2.out) (by have:=HS.out;simp;omega)).set (by simpa using HX3.out) (by have:=HS.out;simp;omega)).set (by simpa using HX4.out) (by have:=HS.out;simp;omega)).set (by simpa using HX5.out) (by have:=HS.out;simp;omega)).set (by simpa using HX6.out) (by have:=HS.out;simp;omega)).set (by simpa using HX7.out) (by have:=HS.out;simp;omega)).set (by simpa using HX8.out) (by have:=HS.out;simp;omega)).cast oM⟩
   case measure=>simp[intOf];omega
  obtain rfl:k=L:=by omega
  go_wp2
  go_ret
  exact⟨_,rfl,he,Own.of_blk hblk (Nat.le_refl _) hsz (by simpa using HL.out) (Nat.le_refl _) (by unfold maxLen;omega) hpre⟩
theorem aW4(w:World)(v:Value)(xs:List Int)(L:Nat)(hL:xs.length=L*9)(left:Int)(h:Aw 9 w v xs)(h0:0<=left)(h1:left<=1048576):Calls Tryz.prog 200 #[v,.int .i64 left] w (Ret w fun v' _=>SzR left L v'):=by
 obtain⟨a,len,ca,rfl,hl,hca,hm,-⟩:=h.open_
 obtain rfl:L=len:=by omega
 clear h hl hL
 unfold maxLen at hm
 by_cases hlt:left<L
 .
  have ht:decide (left - (L:Int)<0)=true:=by simp;omega
  go_enter Tryz.func200,Tryz.ntmps200
  go_wp2
  go_ret
  exact⟨_,rfl,Ext.refl _,.inl ⟨rfl,hlt⟩⟩
 have ht:decide (left - (L:Int)<0)=false:=by simp;omega
 go_enter Tryz.func200,Tryz.ntmps200
 go_wp2
 go_ret
 exact⟨_,rfl,Ext.refl _,.inr ⟨rfl,by omega⟩⟩
theorem bH0(w:World)(x0 x1 x2 x3 x4 x5 x6 x7 x8:Int):Calls Tryz.prog 340 #[.agg #[.int .i64 x0,.int .i64 x1,.int .i64 x2,.int .i64 x3,.int .i64 x4,.int .i64 x5,.int .i64 x6,.int .i64 x7,.int .i64 x8],.agg #[.int .i64 x0,.int .i64 x1,.int .i64 x2,.int .i64 x3,.int .i64 x4,.int .i64 x5,.int .i64 x6,.int .i64 x7,.int .i64 x8]] w (Fz w (.bool true)):=by
 go_enter Tryz.func340,Tryz.ntmps340
 go_wp2_with (first|(go_at_call 148;refine(ZQ _ _ _ _ _ _).mono ?_;rintro e w1 ⟨rfl,hx1⟩;have hz1:=hx1.size;obtain⟨hc1,hf1⟩:=hx1.cells;simp only[World.size_alloc,World.size_setCell] at hz1 hc1 hf1))
 repeat (go_quiet (fail);go_wp2_with (first|(go_at_call 148;refine(ZQ _ _ _ _ _ _).mono ?_;rintro e w1 ⟨rfl,hx1⟩;have hz1:=hx1.size;obtain⟨hc1,hf1⟩:=hx1.cells;simp only[World.size_alloc,World.size_setCell] at hz1 hc1 hf1)))
 go_ret
 exact⟨rfl,xT⟩
theorem aW5(w:World)(va vb:Value)(xs:List Int)(ha:Aw 9 w va xs)(hb:Aw 9 w vb xs):Calls Tryz.prog 246 #[va,vb] w (Fz w (.bool true)):=by
 obtain⟨a,len,ca,rfl,hl,hca,hm,ha'⟩:=ha.open_
 obtain⟨b,len',cb,rfl,hl',_,_,hb'⟩:=hb.open_
 obtain rfl:len=len':=by omega
 have HA:=Lib.hid ha';have HB:=Lib.hid hb'
 clear ha' hb' hl hl' ha hb
 unfold maxLen at hm
 go_enter Tryz.func246,Tryz.ntmps246
 go_wp2
 go_loopw [5] (fun i wr=>∃k:Nat,k<=len/\i=.int .i64 k/\Ext w wr) (fun i _=>len - (intOf i).toNat)
 case atStart=>exact⟨0,Nat.zero_le _,rfl,Ext.refl _⟩
 case round =>
  obtain⟨k,hk,rfl,he⟩:=hrel
  by_cases hlt:k<len
  .
   obtain⟨b1,o1,rfl,_,c1⟩:=HA.out k hlt
   obtain⟨b2,o2,rfl,_,c2⟩:=HB.out k hlt
   obtain⟨x0,hx0,c10⟩:=c1 0 oM
   obtain⟨x1,hx1,c11⟩:=c1 1 oM
   obtain⟨x2,hx2,c12⟩:=c1 2 oM
   obtain⟨x3,hx3,c13⟩:=c1 3 oM
   obtain⟨x4,hx4,c14⟩:=c1 4 oM
   obtain⟨x5,hx5,c15⟩:=c1 5 oM
   obtain⟨x6,hx6,c16⟩:=c1 6 oM
   obtain⟨x7,hx7,c17⟩:=c1 7 oM
   obtain⟨x8,hx8,c18⟩:=c1 8 oM
   obtain⟨y0,hy0,c20⟩:=c2 0 oM
   obtain⟨y1,hy1,c21⟩:=c2 1 oM
   obtain⟨y2,hy2,c22⟩:=c2 2 oM
   obtain⟨y3,hy3,c23⟩:=c2 3 oM
   obtain⟨y4,hy4,c24⟩:=c2 4 oM
   obtain⟨y5,hy5,c25⟩:=c2 5 oM
   obtain⟨y6,hy6,c26⟩:=c2 6 oM
   obtain⟨y7,hy7,c27⟩:=c2 7 oM
   obtain⟨y8,hy8,c28⟩:=c2 8 oM
   obtain rfl:x0=y0:=by rw[hx0] at hy0;exact Option.some.inj hy0
   obtain rfl:x1=y1:=by rw[hx1] at hy1;exact Option.some.inj hy1
   obtain rfl:x2=y2:=by rw[hx2] at hy2;exact Option.some.inj hy2
   obtain rfl:x3=y3:=by rw[hx3] at hy3;exact Option.some.inj hy3
   obtain rfl:x4=y4:=by rw[hx4] at hy4;exact Option.some.inj hy4
   obtain rfl:x5=y5:=by rw[hx5] at hy5;exact Option.some.inj hy5
   obtain rfl:x6=y6:=by rw[hx6] at hy6;exact Option.some.inj hy6
   obtain rfl:x7=y7:=by rw[hx7] at hy7;exact Option.some.inj hy7
   obtain rfl:x8=y8:=by rw[hx8] at hy8;exact Option.some.inj hy8
   have d0:=he.cell c10;have e0:=he.cell c20
   have d1:=he.cell c11;have e1:=he.cell c21
   have d2:=he.cell c12;have e2:=he.cell c22
   have d3:=he.cell c13;have e3:=he.cell c23
   have d4:=he.cell c14;have e4:=he.cell c24
   have d5:=he.cell c15;have e5:=he.cell c25
   have d6:=he.cell c16;have e6:=he.cell c26
   have d7:=he.cell c17;have e7:=he.cell c27
   have d8:=he.cell c18;have e8:=he.cell c28
   simp only[Nat.add_zero] at d0 e0
   clear c1 c2 c10 c20 hx0 hy0 c11 c21 hx1 hy1 c12 c22 hx2 hy2 c13 c23 hx3 hy3 c14 c24 hx4 hy4 c15 c25 hx5 hy5 c16 c26 hx6 hy6 c17 c27 hx7 hy7 c18 c28 hx8 hy8
   go_wp2
   go_region_held3 (fun w'=>Ext wr w'/\w'.cell? ⟨b1,o1+k*9,none⟩=some (.int .i64 x0)/\w'.cell? ⟨b1,o1+k*9+1,none⟩=some (.int .i64 x1)/\w'.cell? ⟨b1,o1+k*9+2,none⟩=some (.int .i64 x2)/\w'.cell? ⟨b1,o1+k*9+3,none⟩=some (.int .i64 x3)/\w'.cell? ⟨b1,o1+k*9+4,none⟩=some (.int .i64 x4)/\w'.cell? ⟨b1,o1+k*9+5,none⟩=some (.int .i64 x5)/\w'.cell? ⟨b1,o1+k*9+6,none⟩=some (.int .i64 x6)/\w'.cell? ⟨b1,o1+k*9+7,none⟩=some (.int .i64 x7)/\w'.cell? ⟨b1,o1+k*9+8,none⟩=some (.int .i64 x8)/\w'.cell? ⟨b2,o2+k*9,none⟩=some (.int .i64 x0)/\w'.cell? ⟨b2,o2+k*9+1,none⟩=some (.int .i64 x1)/\w'.cell? ⟨b2,o2+k*9+2,none⟩=some (.int .i64 x2)/\w'.cell? ⟨b2,o2+k*9+3,none⟩=some (.int .i64 x3)/\w'.cell? ⟨b2,o2+k*9+4,none⟩=some (.int .i64 x4)/\w'.cell? ⟨b2,o2+k*9+5,none⟩=some (.int .i64 x5)/\w'.cell? ⟨b2,o2+k*9+6,none⟩=some (.int .i64 x6)/\w'.cell? ⟨b2,o2+k*9+7,none⟩=some (.int .i64 x7)/\w'.cell? ⟨b2,o2+k*9+8,none⟩=some (.int .i64 x8)) (first|exact⟨Ext.drew (Ext.refl _),d0,d1,d2,d3,d4,d5,d6,d7,d8,e0,e1,e2,e3,e4,e5,e6,e7,e8⟩|exact LV (S:=fun w'=>Ext wr w'/\w'.cell? ⟨b1,o1+k*9,none⟩=some (.int .i64 x0)/\w'.cell? ⟨b1,o1+k*9+1,none⟩=some (.int .i64 x1)/\w'.cell? ⟨b1,o1+k*9+2,none⟩=some (.int .i64 x2)/\w'.cell? ⟨b1,o1+k*9+3,none⟩=some (.int .i64 x3)/\w'.cell? ⟨b1,o1+k*9+4,none⟩=some (.int .i64 x4)/\w'.cell? ⟨b1,o1+k*9+5,none⟩=some (.int .i64 x5)/\w'.cell? ⟨b1,o1+k*9+6,none⟩=some (.int .i64 x6)/\w'.cell? ⟨b1,o1+k*9+7,none⟩=some (.int .i64 x7)/\w'.cell? ⟨b1,o1+k*9+8,none⟩=some (.int .i64 x8)/\w'.cell? ⟨b2,o2+k*9,none⟩=some (.int .i64 x0)/\w'.cell? ⟨b2,o2+k*9+1,none⟩=some (.int .i64 x1)/\w'.cell? ⟨b2,o2+k*9+2,none⟩=some (.int .i64 x2)/\w'.cell? ⟨b2,o2+k*9+3,none⟩=some (.int .i64 x3)/\w'.cell? ⟨b2,o2+k*9+4,none⟩=some (.int .i64 x4)/\w'.cell? ⟨b2,o2+k*9+5,none⟩=some (.int .i64 x5)/\w'.cell? ⟨b2,o2+k*9+6,none⟩=some (.int .i64 x6)/\w'.cell? ⟨b2,o2+k*9+7,none⟩=some (.int .i64 x7)/\w'.cell? ⟨b2,o2+k*9+8,none⟩=some (.int .i64 x8)) (by assumption) hx (fun a b h x=>⟨h.1.trans x,(h.1.trans x).cell d0,(h.1.trans x).cell d1,(h.1.trans x).cell d2,(h.1.trans x).cell d3,(h.1.trans x).cell d4,(h.1.trans x).cell d5,(h.1.trans x).cell d6,(h.1.trans x).cell d7,(h.1.trans x).cell d8,(h.1.trans x).cell e0,(h.1.trans x).cell e1,(h.1.trans x).cell e2,(h.1.trans x).cell e3,(h.1.trans x).cell e4,(h.1.trans x).cell e5,(h.1.trans x).cell e6,(h.1.trans x).cell e7,(h.1.trans x).cell e8⟩)) ((go_at_call 340;refine(bH0 _ _ _ _ _ _ _ _ _ _).mono ?_;rintro e w' ⟨rfl,hx⟩))
   go_wp2
   go_roundw
   case rel=>exact⟨k+1,by omega,by go_num,he.trans (And.left ‹_›)⟩
   case measure=>simp[intOf];omega
  go_wp2
  go_ret
  exact⟨rfl,he⟩
theorem aJ9(w:World)(B:Nat)(v:Value)(xs:List Int)(L:Nat)(hL:xs.length=L*9)(q:Int)(h:Ba B 281 9 w v xs)(h0:0<=q)(h1:q+(L*9:Nat)<=4611686018427387904):Calls Tryz.prog 258 #[v,.int .i64 q] w (IX w (Ep [v]) (.int .i64 (q+(L*9:Nat))) fun w'=>Ba B 281 9 w' v (run q (L*9))):=by
 obtain⟨a,len,ca,rfl,hl,hca,hm,hop⟩:=Own.open_ h
 rw[List.length_map] at hl
 obtain rfl:L=len:=by omega
 unfold maxLen at hm
 rcases hop with h00|⟨g,cur0,rfl,hB,hb0,hs0,-⟩
 .
  subst h00
  have hfin:Ba B 281 9 w (.slice a 0 ca) (run q (0*9)):=by
   refine Own.empty h ?_ _ ?_
   .
    exact List.eq_nil_of_length_eq_zero (by simpa using hL)
   simp[run]
  have HF:=Lib.hid hfin
  clear hfin h hL hl
  have hq:q+((0*9:Nat):Int)=q:=by simp
  rw[hq]
  clear hq
  go_enter Tryz.func258,Tryz.ntmps258
  go_wp2
  go_loopw [1,5] (fun kk i wr=>kk=.int .i64 q/\i=.int .i64 0/\wr=w) (fun _ _ _=>0)
  case atStart=>exact⟨rfl,rfl,rfl⟩
  case round =>
   obtain⟨rfl,rfl,rfl⟩:=hrel
   go_wp2
   go_ret
   exact⟨rfl,Upd.refl _ _,HF.out⟩
 have HS:=Lib.hid hs0
 have HC:=Lib.hid (show L*9<=ca*9 by have:=Nat.mul_le_mul_right 9 hca;omega)
 clear hs0 hL hl h
 go_enter Tryz.func258,Tryz.ntmps258
 go_wp2
 go_loopw [1,5] (fun kk i wr=>∃k:Nat,k<=L/\i=.int .i64 k/\(∃q':Int,q'=q+(k*9:Nat)/\kk=.int .i64 q')/\Upd w wr [g]/\∃cur,Blk wr g 281 cur/\cur.size=ca*9/\Pre cur (k*9) ((run q (L*9)).map (.int .i64))) (fun _ i _=>L - (intOf i).toNat)
 case atStart=>exact⟨0,Nat.zero_le _,rfl,⟨q,by simp,rfl⟩,Upd.refl _ _,cur0,hb0,HS.out,by simpa using Pre.zero _ _⟩
 case round =>
  obtain⟨k,hk,rfl,⟨q',hq',rfl⟩,he,cur,hblk,hsz,hpre⟩:=hrel
  clear HS
  have HS:=Lib.hid hsz
  have HQ:=Lib.hid hq'
  by_cases hlt:k<L
  .
   have hq1:0<=q'/\q'+9<=4611686018427387904:=by have:=Av hlt 9;omega
   obtain⟨hq1,hq2⟩:=hq1
   clear hsz hq'
   obtain⟨z0,g0⟩:∃z,wr.cell? ⟨g,k*9,none⟩=some z:=⟨_,by rw[hblk.cell];exact Array.getElem?_eq_getElem (by have:=HS.out;have:=HC.out;have:=Av hlt 9;omega)⟩
   have f0:=hblk.frozen (k*9)
   obtain⟨z1,g1⟩:∃z,wr.cell? ⟨g,k*9+1,none⟩=some z:=⟨_,by rw[hblk.cell];exact Array.getElem?_eq_getElem (by have:=HS.out;have:=HC.out;have:=Av hlt 9;omega)⟩
   have f1:=hblk.frozen (k*9+1)
   obtain⟨z2,g2⟩:∃z,wr.cell? ⟨g,k*9+2,none⟩=some z:=⟨_,by rw[hblk.cell];exact Array.getElem?_eq_getElem (by have:=HS.out;have:=HC.out;have:=Av hlt 9;omega)⟩
   have f2:=hblk.frozen (k*9+2)
   obtain⟨z3,g3⟩:∃z,wr.cell? ⟨g,k*9+3,none⟩=some z:=⟨_,by rw[hblk.cell];exact Array.getElem?_eq_getElem (by have:=HS.out;have:=HC.out;have:=Av hlt 9;omega)⟩
   have f3:=hblk.frozen (k*9+3)
   obtain⟨z4,g4⟩:∃z,wr.cell? ⟨g,k*9+4,none⟩=some z:=⟨_,by rw[hblk.cell];exact Array.getElem?_eq_getElem (by have:=HS.out;have:=HC.out;have:=Av hlt 9;omega)⟩
   have f4:=hblk.frozen (k*9+4)
   obtain⟨z5,g5⟩:∃z,wr.cell? ⟨g,k*9+5,none⟩=some z:=⟨_,by rw[hblk.cell];exact Array.getElem?_eq_getElem (by have:=HS.out;have:=HC.out;have:=Av hlt 9;omega)⟩
   have f5:=hblk.frozen (k*9+5)
   obtain⟨z6,g6⟩:∃z,wr.cell? ⟨g,k*9+6,none⟩=some z:=⟨_,by rw[hblk.cell];exact Array.getElem?_eq_getElem (by have:=HS.out;have:=HC.out;have:=Av hlt 9;omega)⟩
   have f6:=hblk.frozen (k*9+6)
   obtain⟨z7,g7⟩:∃z,wr.cell? ⟨g,k*9+7,none⟩=some z:=⟨_,by rw[hblk.cell];exact Array.getElem?_eq_getElem (by have:=HS.out;have:=HC.out;have:=Av hlt 9;omega)⟩
   have f7:=hblk.frozen (k*9+7)
   obtain⟨z8,g8⟩:∃z,wr.cell? ⟨g,k*9+8,none⟩=some z:=⟨_,by rw[hblk.cell];exact Array.getElem?_eq_getElem (by have:=HS.out;have:=HC.out;have:=Av hlt 9;omega)⟩
   have f8:=hblk.frozen (k*9+8)
   go_wp2
   go_roundw
   case rel=>exact⟨k+1,by omega,by go_num,⟨_,by have:=HQ.out;omega,rfl⟩,(((((((((he.setCell (by simp) _).setCell (by simp) _).setCell (by simp) _).setCell (by simp) _).setCell (by simp) _).setCell (by simp) _).setCell (by simp) _).setCell (by simp) _).setCell (by simp) _),_,(((((((((hblk.set_ _ _).set_ _ _).set_ _ _).set_ _ _).set_ _ _).set_ _ _).set_ _ _).set_ _ _).set_ _ _),by simp;exact HS.out,((((((((((hpre.set (aP (by have:=Av hlt 9;omega) (by have:=HQ.out;omega)) (by have:=HS.out;have:=Av hlt 9;have:=HC.out;omega)).set (aP (by have:=Av hlt 9;omega) (by have:=HQ.out;omega)) (by have:=HS.out;have:=Av hlt 9;have:=HC.out;simp;omega)).set (aP (by have:=Av hlt 9;omega) (by have:=HQ.out;omega)) (by have:=HS.out;have:=Av hlt 9;have:=HC.out;simp;omega)).set (aP (by have:=Av hlt 9;omega) (by have:=HQ.out;omega)) (by have:=HS.out;have:=Av hlt 9;have:=HC.out;simp;omega)).set (aP (by have:=Av hlt 9;omega) (by have:=HQ.out;omega)) (by have:=HS.out;have:=Av hlt 9;have:=HC.out;simp;omega)).set (aP (by have:=Av hlt 9;omega) (by have:=HQ.out;omega)) (by have:=HS.out;have:=Av hlt 9;have:=HC.out;simp;omega)).set (aP (by have:=Av hlt 9;omega) (by have:=HQ.out;omega)) (by have:=HS.out;have:=Av hlt 9;have:=HC.out;simp;omega)).set (aP (by have:=Av hlt 9;omega) (by have:=HQ.out;omega)) (by have:=HS.out;have:=Av hlt 9;have:=HC.out;simp;omega)).set (aP (by have:=Av hlt 9;omega) (by have:=HQ.out;omega)) (by have:=HS.out;have:=Av hlt 9;have:=HC.out;simp;omega))).cast oM⟩
   case measure=>simp[intOf];omega
  obtain rfl:k=L:=by omega
  clear hsz hq'
  go_wp2
  go_ret
  refine⟨congrArg (fun z=>Ending.returned (.int .i64 z)) HQ.out,he,Own.of_blk hblk hB HS.out (by simp[GR]) hca (by unfold maxLen;omega) hpre⟩
theorem Upd.setOne{a b:World}{g:Nat}(h:Upd a b [g])(o:Nat)(u:Value):Upd a (b.setCell ⟨g,o,none⟩ u) [g]:=h.setCell (List.mem_singleton.2 rfl) u
theorem Upd.cell{a b:World}{fs:List Nat}(h:Upd a b fs){k o:Nat}(hk:k<a.heap.size)(hn:k ∉ fs):b.cell? ⟨k,o,none⟩=a.cell? ⟨k,o,none⟩:=World.cell?_of_block (w:=a) (h.block k hk hn)
theorem Own.footB{B:Nat}{e:TypeId}{n:Nat}{w:World}{v:Value}{cs:List Value}(h:Own B e n w v cs){k:Nat}(hk:k ∈ Ep [v]):B<=k:=by
 simp only[Ep,List.mem_filterMap] at hk
 obtain⟨u,hu,hf⟩:=hk
 simp at hu;subst hu
 exact(h.lt hf).1
theorem Upd.app{a w w':World}{B:Nat}{e:TypeId}{n:Nat}{v:Value}{cs:List Value}{fs:List Nat}(h:Upd a w fs)(ho:Own B e n w v cs)(hB:(∀k,k ∈ Ep [v]->k ∈ fs)\/a.heap.size<=B)(hg:w.grownBy w' v.ownBlock):Upd a w' fs :=
 ⟨hg.os.trans h.os,hg.tape.trans h.tape,hg.output.trans h.output,Nat.le_trans h.size hg.size,fun k hk hn=>by
  refine(hg.block k (Nat.lt_of_lt_of_le hk h.size) (fun e=>?_)).trans (h.block k hk hn)
  rcases hB with hB|hB
  .
   exact hn (hB k (by simp[Ep,e.symm]))
  have:=(ho.lt e.symm).1;omega⟩
theorem Own.typed'{B:Nat}{e:TypeId}{n:Nat}{w:World}{v:Value}{cs:List Value}(h:Own B e n w v cs){X:Nat}(hX:v.ownBlock=some X):∃cur,Blk w X e cur:=by
 obtain⟨len,h⟩:=h
 rcases h.2 with⟨h0,_⟩|⟨g,cap,cur,hv,hb,hg,_⟩
 .
  rw[h0] at hX;simp[Value.ownBlock] at hX
 rw[hv] at hX
 simp[Value.ownBlock] at hX
 subst hX
 exact⟨cur,hg⟩
theorem Blk.app{w w':World}{g B:Nat}{t e:TypeId}{n:Nat}{v:Value}{cs:Array Value}{xs:List Value}(h:Blk w g t cs)(ho:Own B e n w v xs)(ht:t≠e)(hg:w.grownBy w' v.ownBlock):Blk w' g t cs:=by
 refine(hg.block g h.lt (fun hh=>?_)).trans h
 obtain⟨cur,hb⟩:=ho.typed' hh.symm
 unfold Blk at h hb
 rw[h] at hb
 injection hb with hb
 injection hb with _ hb
 exact ht hb
theorem Own.app{w w':World}{B B':Nat}{t e:TypeId}{n m:Nat}{v u:Value}{cs xs:List Value}(h:Own B' t m w u cs)(ho:Own B e n w v xs)(ht:t≠e)(hg:w.grownBy w' v.ownBlock):Own B' t m w' u cs:=by
 refine h.kept hg ?_
 cases hu:u.ownBlock with
 | none=>exact .inl rfl
 | some X =>
  refine .inr (fun hh=>?_)
  obtain⟨c1,h1⟩:=h.typed' hu
  obtain⟨c2,h2⟩:=ho.typed' hh.symm
  unfold Blk at h1 h2
  rw[h1] at h2
  injection h2 with h2
  injection h2 with _ h2
  exact ht h2
theorem Ba.app{w w':World}{B B':Nat}{t e:TypeId}{n m:Nat}{v u:Value}{cs:List Int}{xs:List Value}(h:Ba B' t m w u cs)(ho:Own B e n w v xs)(ht:t≠e)(hg:w.grownBy w' v.ownBlock):Ba B' t m w' u cs:=Own.app h ho ht hg
def bR5(w:World)(v:Value):Prop:=∃bs:List Int,Sl 1 w v (bs.map (.int .u8))/\∀x,x ∈ bs->0<=x/\x<=255
theorem bR5.ext{w w':World}{v:Value}(h:bR5 w v)(x:Ext w w'):bR5 w' v:=let ⟨bs,h,hb⟩:=h;⟨bs,h.ext x,hb⟩
def Cur(B:Nat)(w:World)(g:Nat):Prop:=∃(a:Option Addr) (n k i:Nat) (h:Int),Blk w g 245 #[.slice a n k,.int .i64 i,.int .i64 h]/\B<=g/\i<=n/\n<=k/\k<=maxLen /\
 ∀j,j<n->∃b off x,a=some ⟨b,off,none⟩/\b<B/\0<=x/\x<=255/\w.cell? ⟨b,off+j,none⟩=some (.int .u8 x)
theorem Cur.lt{B:Nat}{w:World}{g:Nat}(h:Cur B w g):B<=g/\g<w.heap.size:=let ⟨_,_,_,_,_,hk,hB,_⟩:=h;⟨hB,hk.lt⟩
theorem Cur.upd{B:Nat}{w w':World}{g:Nat}{fs:List Nat}(h:Cur B w g)(x:Upd w w' fs)(hg:g ∉ fs)(hB:∀k,k ∈ fs->B<=k):Cur B w' g:=by
 obtain⟨a,n,k,i,e,hk,h0,h1,h2,h3,h4⟩:=h
 refine⟨a,n,k,i,e,hk.upd x hg,h0,h1,h2,h3,fun j hj=>?_⟩
 obtain⟨b,off,y,h5,h6,h7,h8,h9⟩:=h4 j hj
 have:=hk.lt
 exact⟨b,off,y,h5,h6,h7,h8,(x.cell oM (fun hm=>by have:=hB b hm;omega)).trans h9⟩
theorem Cur.ext{B:Nat}{w w':World}{g:Nat}(h:Cur B w g)(x:Ext w w'):Cur B w' g:=h.upd (x.upd []) (by simp) (by simp)
theorem Cur.set_{B:Nat}{w:World}{g:Nat}(h:Cur B w g){X:Nat}(hX:g<X)(o:Nat)(u:Value):Cur B (w.setCell ⟨X,o,none⟩ u) g :=
 h.upd ((Upd.refl w [X]).setOne o u) (by simp;omega) (fun k hk=>by have:=h.lt;simp at hk;omega)
theorem Cur.row{B:Nat}{w:World}{g:Nat}(h:Cur B w g){X:Nat}(hX:g<X)(cs:Array Value):Cur B (w.setRow X cs) g :=
 h.upd (fs:=[X]) ⟨rfl,rfl,rfl,by rw[wV];exact Nat.le_refl _,fun k _ hn=>EJ w cs (fun e=>hn (by simp[e]))⟩ (by simp;omega) (fun k hk=>by have:=h.lt;simp at hk;omega)
theorem Cur.of{B:Nat}{w w':World}{g n k i':Nat}{a:Option Addr}{h':Int}(X:Upd w w' [g])(hg:g<w.heap.size)(K:Blk w' g 245 #[.slice a n k,.int .i64 i',.int .i64 h'])(h0:B<=g)(h1:i'<=n)(h2:n<=k)(h3:k<=9223372036854775807)
  (h4:∀j,j<n->∃b off x,a=some ⟨b,off,none⟩/\b<B/\0<=x/\x<=255/\w.cell? ⟨b,off+j,none⟩=some (.int .u8 x)):Cur B w' g:=by
 refine⟨a,n,k,i',h',K,h0,h1,h2,by unfold maxLen;omega,fun j hj=>?_⟩
 obtain⟨b,off,y,h5,h6,h7,h8,h9⟩:=h4 j hj
 exact⟨b,off,y,h5,h6,h7,h8,(X.cell oM (by simp;omega)).trans h9⟩
section
variable {B:Nat} {w:World} {g:Nat}
theorem Cur.app{B0 B g n:Nat}{e:TypeId}{w w':World}{v:Value}{cs:List Value}(h:Cur B0 w g)(ho:Own B e n w v cs)(hB:g<B)(hg:w.grownBy w' v.ownBlock):Cur B0 w' g :=
 h.upd (Upd.app (Upd.refl w _) ho (fs:=Ep [v]) (.inl fun _ h=>h) hg) (fun hm=>by have:=ho.footB hm;omega) (fun k hk=>by have:=ho.footB hk;have:=h.lt;omega)
end
theorem NH:JD []=true:=PX (by simp[OH])
theorem Aw.sl{n:Nat}{w:World}{v:Value}{xs:List Int}(h:Aw n w v xs):Sl n w v (xs.map (.int .i64)):=h
end Go.Proofs.YtkpmbocbbgocbaaGreat
