/- HelpA HelpC HelpD HelpE HelpF V1 S1 S4 HelpG. -/
import Derived.Test.YtkpmbocbbgocbaaGreatRows
import Derived.Test.YtkpmbocbbgocbaaGreatGa
set_option linter.unusedSimpArgs false
set_option linter.unusedVariables false
set_option maxHeartbeats 8000000
set_option maxRecDepth 100000
namespace Go.Proofs.YtkpmbocbbgocbaaGreat
open Go.RowKit Go.G8
theorem info_Int64:(Tryz.prog.info? 2).map (fun i=>(i.zero,i.size,i.bytes))=some (some (.int .i64 0),1,8):=by kernel_rfl
theorem info_Due:(Tryz.prog.info? 286).map (fun i=>(i.zero,i.size,i.bytes))=some (some (.agg #[.int .i64 0,.int .i64 0]),2,16):=by kernel_rfl
theorem toInt64S_c (w:World) (v:Value) (xs:List Int) (L:Nat) (hL:xs.length=L * 1) (h:Ints 1 w v xs) (hs:L≤1048576) :
  Calls Tryz.prog 48 #[v] w (Ret w fun v' w'=>OwnI w.heap.size 2 1 w' v' xs):=by
 obtain⟨a,len,ca,rfl,hl,hca,hm,ha⟩:=h.open_
 obtain rfl:L=len:=by omega
 have HA:=Lib.hid ha;have HL:=Lib.hid hl
 clear ha hl hL
 unfold maxLen at hm
 obtain⟨i0,hi,hz0,hz1,hz2⟩:=info_parts info_Int64
 go_enter Tryz.func48,Tryz.ntmps48
 have hmk:=fun W=>run_make (P:=Tryz.prog) W 62 2 i0 _ Tryz.underlying62 hi hz0 .i64 .i64 L L oM oM (by rw [hz2];omega) oM
 simp only [Int.toNat_natCast,hz1] at hmk
 go_wp2
 clear hmk
 go_loopw [4] (fun i wr=>∃ k:Nat,k≤L∧i=.int .i64 k∧Ext w wr∧∃ cur,Blk wr w.heap.size 2 cur∧cur.size=L * 1∧Pre cur (k) (xs.map (.int .i64))) (fun i _=>L - (intOf i).toNat)
 case atStart=>exact⟨0,Nat.zero_le _,rfl,(Ext.refl _).alloc _,_,Blk.new _ _ _,by simp [size_madeCells],by simpa using Pre.zero _ _⟩
 case round =>
  obtain⟨k,hk,rfl,he,cur,hblk,hsz,hpre⟩:=hrel
  by_cases hlt:k<L
  ·
   obtain⟨b1,o1,rfl,_,c1⟩:=HA.out k hlt
   obtain⟨x0,hx0,c10⟩:=c1 0 oM
   have d0:=he.cell c10
   simp only [Nat.add_zero,Nat.mul_one] at d0
   clear c1 c10
   have HX0:=Lib.hid hx0
   have HS:=Lib.hid hsz
   clear hx0 hsz
   obtain⟨z0,g0⟩:∃ z,wr.cell? ⟨w.heap.size,k,none⟩=some z:=⟨_,by rw [hblk.cell];exact Array.getElem?_eq_getElem (by have:=HS.out;omega)⟩;have f0:=hblk.frozen (k)
   go_wp2
   go_roundw
   case rel=>exact⟨k+1,by omega,by go_num,(he.setCell (Nat.le_refl _) _),_,(hblk.set_ _ _),by simpa using HS.out,(hpre.set (by simpa using HX0.out) (by have:=HS.out;omega))⟩
   case measure=>simp [intOf];omega
  obtain rfl:k=L:=by omega
  go_wp2
  go_ret
  exact⟨_,rfl,he,Own.of_blk hblk (Nat.le_refl _) hsz (by simpa using HL.out) (Nat.le_refl _) (by unfold maxLen;omega) (hpre.cast oM)⟩
theorem szInt64S_c (w:World) (v:Value) (xs:List Int) (L:Nat) (hL:xs.length=L * 1) (left:Int) (h:Ints 1 w v xs) (h0:0≤left) (h1:left≤1048576) :
  Calls Tryz.prog 38 #[v,.int .i64 left] w (Ret w fun v' _=>SzR left L v'):=by
 obtain⟨a,len,ca,rfl,hl,hca,hm,-⟩:=h.open_
 obtain rfl:L=len:=by omega
 clear h hl hL
 unfold maxLen at hm
 by_cases hlt:left<L
 ·
  have ht:decide (left - (L:Int)<0)=true:=by simp;omega
  go_enter Tryz.func38,Tryz.ntmps38
  go_wp2
  go_ret
  exact⟨_,rfl,Ext.refl _,.inl ⟨rfl,hlt⟩⟩
 have ht:decide (left - (L:Int)<0)=false:=by simp;omega
 go_enter Tryz.func38,Tryz.ntmps38
 go_wp2
 go_ret
 exact⟨_,rfl,Ext.refl _,.inr ⟨rfl,by omega⟩⟩
theorem eqInt64S_c (w:World) (va vb:Value) (xs:List Int) (ha:Ints 1 w va xs) (hb:Ints 1 w vb xs) :
  Calls Tryz.prog 17 #[va,vb] w (RetV w (.bool true)):=by
 obtain⟨a,len,ca,rfl,hl,hca,hm,ha'⟩:=ha.open_
 obtain⟨b,len',cb,rfl,hl',_,_,hb'⟩:=hb.open_
 obtain rfl:len=len':=by omega
 have HA:=Lib.hid ha';have HB:=Lib.hid hb'
 clear ha' hb' hl hl' ha hb
 unfold maxLen at hm
 go_enter Tryz.func17,Tryz.ntmps17
 go_wp2
 go_loopw [5] (fun i wr=>∃ k:Nat,k≤len∧i=.int .i64 k∧Ext w wr) (fun i _=>len - (intOf i).toNat)
 case atStart=>exact⟨0,Nat.zero_le _,rfl,Ext.refl _⟩
 case round =>
  obtain⟨k,hk,rfl,he⟩:=hrel
  by_cases hlt:k<len
  ·
   obtain⟨b1,o1,rfl,_,c1⟩:=HA.out k hlt
   obtain⟨b2,o2,rfl,_,c2⟩:=HB.out k hlt
   obtain⟨x0,hx0,c10⟩:=c1 0 oM
   obtain⟨y0,hy0,c20⟩:=c2 0 oM
   obtain rfl:x0=y0:=by rw [hx0] at hy0;exact Option.some.inj hy0
   have d0:=he.cell c10;have e0:=he.cell c20
   simp only [Nat.add_zero,Nat.mul_one] at d0 e0
   clear c1 c2 c10 c20 hx0 hy0
   go_wp2
   go_quiet (fail)
   go_wp2
   go_roundw
   case rel=>exact⟨k+1,by omega,by go_num,he.drewN _⟩
   case measure=>simp [intOf];omega
  go_wp2
  go_ret
  exact⟨rfl,he⟩
theorem toDue_c (w:World) (x0 x1:Int) :
  Calls Tryz.prog 395 #[.agg #[.int .i64 x0,.int .i64 x1]] w (RetV w (.agg #[.int .i64 x0,.int .i64 x1])):=by
 go_enter Tryz.func395,Tryz.ntmps395
 go_wp2
 refine bodyPost_ret (v:=.agg #[.int .i64 x0,.int .i64 x1]) (by simp [results,Tryz.results395,go_sem]) rfl ⟨rfl,?_⟩
 exact xT
theorem toDueS_c (w:World) (v:Value) (xs:List Int) (L:Nat) (hL:xs.length=L * 2) (h:Ints 2 w v xs) (hs:L≤1048576) :
  Calls Tryz.prog 336 #[v] w (Ret w fun v' w'=>OwnI w.heap.size 286 2 w' v' xs):=by
 obtain⟨a,len,ca,rfl,hl,hca,hm,ha⟩:=h.open_
 obtain rfl:L=len:=by omega
 have HA:=Lib.hid ha;have HL:=Lib.hid hl
 clear ha hl hL
 unfold maxLen at hm
 obtain⟨i0,hi,hz0,hz1,hz2⟩:=info_parts info_Due
 go_enter Tryz.func336,Tryz.ntmps336
 have hmk:=fun W=>run_make (P:=Tryz.prog) W 89 286 i0 _ Tryz.underlying89 hi hz0 .i64 .i64 L L oM oM (by rw [hz2];omega) oM
 simp only [Int.toNat_natCast,hz1] at hmk
 go_wp2
 clear hmk
 go_loopw [4] (fun i wr=>∃ k:Nat,k≤L∧i=.int .i64 k∧Ext w wr∧∃ cur,Blk wr w.heap.size 286 cur∧cur.size=L * 2∧Pre cur (k * 2) (xs.map (.int .i64))) (fun i _=>L - (intOf i).toNat)
 case atStart=>exact⟨0,Nat.zero_le _,rfl,(Ext.refl _).alloc _,_,Blk.new _ _ _,by simp [size_madeCells],by simpa using Pre.zero _ _⟩
 case round =>
  obtain⟨k,hk,rfl,he,cur,hblk,hsz,hpre⟩:=hrel
  by_cases hlt:k<L
  ·
   obtain⟨b1,o1,rfl,_,c1⟩:=HA.out k hlt
   obtain⟨x0,hx0,c10⟩:=c1 0 oM
   obtain⟨x1,hx1,c11⟩:=c1 1 oM
   have d0:=he.cell c10;have d1:=he.cell c11
   simp only [Nat.add_zero] at d0
   clear c1 c10 c11
   have HX0:=Lib.hid hx0;have HX1:=Lib.hid hx1
   have HS:=Lib.hid hsz
   clear hx0 hx1 hsz
   go_wp2_with (first|(go_at_call 395;refine (toDue_c _ _ _).mono ?_;rintro e w1 ⟨rfl,hx⟩;have hb1:=hblk.ext hx;obtain⟨z0,g0⟩:∃ z,w1.cell? ⟨w.heap.size,k * 2,none⟩=some z:=⟨_,by rw [hb1.cell];exact Array.getElem?_eq_getElem (by have:=HS.out;omega)⟩;obtain⟨z1,g1⟩:∃ z,w1.cell? ⟨w.heap.size,k * 2+1,none⟩=some z:=⟨_,by rw [hb1.cell];exact Array.getElem?_eq_getElem (by have:=HS.out;omega)⟩;have f0:=hb1.frozen (k * 2);have f1:=hb1.frozen (k * 2+1)))
   go_roundw
   case rel=>exact⟨k+1,by omega,by go_num,(((he.trans hx).setCell (Nat.le_refl _) _).setCell (Nat.le_refl _) _),_,((hb1.set_ _ _).set_ _ _),by simp;exact HS.out,((hpre.set (by simpa using HX0.out) (by have:=HS.out;omega)).set (by simpa using HX1.out) (by have:=HS.out;simp;omega)).cast oM⟩
   case measure=>simp [intOf];omega
  obtain rfl:k=L:=by omega
  go_wp2
  go_ret
  exact⟨_,rfl,he,Own.of_blk hblk (Nat.le_refl _) hsz (by simpa using HL.out) (Nat.le_refl _) (by unfold maxLen;omega) hpre⟩
theorem szDueS_c (w:World) (v:Value) (xs:List Int) (L:Nat) (hL:xs.length=L * 2) (left:Int) (h:Ints 2 w v xs) (h0:0≤left) (h1:left≤1048576) :
  Calls Tryz.prog 302 #[v,.int .i64 left] w (Ret w fun v' _=>SzR left L v'):=by
 obtain⟨a,len,ca,rfl,hl,hca,hm,-⟩:=h.open_
 obtain rfl:L=len:=by omega
 clear h hl hL
 unfold maxLen at hm
 by_cases hlt:left<L
 ·
  have ht:decide (left - (L:Int)<0)=true:=by simp;omega
  go_enter Tryz.func302,Tryz.ntmps302
  go_wp2
  go_ret
  exact⟨_,rfl,Ext.refl _,.inl ⟨rfl,hlt⟩⟩
 have ht:decide (left - (L:Int)<0)=false:=by simp;omega
 go_enter Tryz.func302,Tryz.ntmps302
 go_wp2
 go_ret
 exact⟨_,rfl,Ext.refl _,.inr ⟨rfl,by omega⟩⟩
theorem eqDue_c (w:World) (x0 x1:Int) :
  Calls Tryz.prog 398 #[.agg #[.int .i64 x0,.int .i64 x1],.agg #[.int .i64 x0,.int .i64 x1]] w (RetV w (.bool true)):=by
 go_enter Tryz.func398,Tryz.ntmps398
 go_wp2
 repeat (go_quiet (fail);go_wp2)
 go_ret
 exact⟨rfl,xT⟩
theorem eqDueS_c (w:World) (va vb:Value) (xs:List Int) (ha:Ints 2 w va xs) (hb:Ints 2 w vb xs) :
  Calls Tryz.prog 344 #[va,vb] w (RetV w (.bool true)):=by
 obtain⟨a,len,ca,rfl,hl,hca,hm,ha'⟩:=ha.open_
 obtain⟨b,len',cb,rfl,hl',_,_,hb'⟩:=hb.open_
 obtain rfl:len=len':=by omega
 have HA:=Lib.hid ha';have HB:=Lib.hid hb'
 clear ha' hb' hl hl' ha hb
 unfold maxLen at hm
 go_enter Tryz.func344,Tryz.ntmps344
 go_wp2
 go_loopw [5] (fun i wr=>∃ k:Nat,k≤len∧i=.int .i64 k∧Ext w wr) (fun i _=>len - (intOf i).toNat)
 case atStart=>exact⟨0,Nat.zero_le _,rfl,Ext.refl _⟩
 case round =>
  obtain⟨k,hk,rfl,he⟩:=hrel
  by_cases hlt:k<len
  ·
   obtain⟨b1,o1,rfl,_,c1⟩:=HA.out k hlt
   obtain⟨b2,o2,rfl,_,c2⟩:=HB.out k hlt
   obtain⟨x0,hx0,c10⟩:=c1 0 oM
   obtain⟨x1,hx1,c11⟩:=c1 1 oM
   obtain⟨y0,hy0,c20⟩:=c2 0 oM
   obtain⟨y1,hy1,c21⟩:=c2 1 oM
   obtain rfl:x0=y0:=by rw [hx0] at hy0;exact Option.some.inj hy0
   obtain rfl:x1=y1:=by rw [hx1] at hy1;exact Option.some.inj hy1
   have d0:=he.cell c10;have e0:=he.cell c20
   have d1:=he.cell c11;have e1:=he.cell c21
   simp only [Nat.add_zero] at d0 e0
   clear c1 c2 c10 c20 hx0 hy0 c11 c21 hx1 hy1
   go_wp2
   go_region_held3 (fun w'=>Ext wr w'∧w'.cell? ⟨b1,o1+k * 2,none⟩=some (.int .i64 x0)∧w'.cell? ⟨b1,o1+k * 2+1,none⟩=some (.int .i64 x1)∧w'.cell? ⟨b2,o2+k * 2,none⟩=some (.int .i64 x0)∧w'.cell? ⟨b2,o2+k * 2+1,none⟩=some (.int .i64 x1)) (first|exact⟨Ext.drew (Ext.refl _),d0,d1,e0,e1⟩|exact held_of (S:=fun w'=>Ext wr w'∧w'.cell? ⟨b1,o1+k * 2,none⟩=some (.int .i64 x0)∧w'.cell? ⟨b1,o1+k * 2+1,none⟩=some (.int .i64 x1)∧w'.cell? ⟨b2,o2+k * 2,none⟩=some (.int .i64 x0)∧w'.cell? ⟨b2,o2+k * 2+1,none⟩=some (.int .i64 x1)) (by assumption) hx (fun a b h x=>⟨h.1.trans x,(h.1.trans x).cell d0,(h.1.trans x).cell d1,(h.1.trans x).cell e0,(h.1.trans x).cell e1⟩)) ((go_at_call 398;refine (eqDue_c _ _ _).mono ?_;rintro e w' ⟨rfl,hx⟩))
   go_wp2
   go_roundw
   case rel=>exact⟨k+1,by omega,by go_num,he.trans (And.left ‹_›)⟩
   case measure=>simp [intOf];omega
  go_wp2
  go_ret
  exact⟨rfl,he⟩
theorem toOp_c (w:World) (x0 x1 x2 x3 x4:Int) :
  Calls Tryz.prog 127 #[.agg #[.int .i64 x0,.int .i64 x1,.int .i64 x2,.int .i64 x3,.int .i64 x4]] w (RetV w (.agg #[.int .i64 x0,.int .i64 x1,.int .i64 x2,.int .i64 x3,.int .i64 x4])):=by
 go_enter Tryz.func127,Tryz.ntmps127
 go_wp2
 refine bodyPost_ret (v:=.agg #[.int .i64 x0,.int .i64 x1,.int .i64 x2,.int .i64 x3,.int .i64 x4]) (by simp [results,Tryz.results127,go_sem]) rfl ⟨rfl,?_⟩
 exact xT
theorem eqOp_c (w:World) (x0 x1 x2 x3 x4:Int) :
  Calls Tryz.prog 148 #[.agg #[.int .i64 x0,.int .i64 x1,.int .i64 x2,.int .i64 x3,.int .i64 x4],.agg #[.int .i64 x0,.int .i64 x1,.int .i64 x2,.int .i64 x3,.int .i64 x4]] w (RetV w (.bool true)):=by
 go_enter Tryz.func148,Tryz.ntmps148
 go_wp2
 repeat (go_quiet (fail);go_wp2)
 go_ret
 exact⟨rfl,xT⟩
theorem toAck_c (w:World) (x0 x1 x2 x3:Int) :
  Calls Tryz.prog 227 #[.agg #[.int .i64 x0,.int .i64 x1,.int .i64 x2,.int .i64 x3]] w (RetV w (.agg #[.int .i64 x0,.int .i64 x1,.int .i64 x2,.int .i64 x3])):=by
 go_enter Tryz.func227,Tryz.ntmps227
 go_wp2
 refine bodyPost_ret (v:=.agg #[.int .i64 x0,.int .i64 x1,.int .i64 x2,.int .i64 x3]) (by simp [results,Tryz.results227,go_sem]) rfl ⟨rfl,?_⟩
 exact xT
theorem eqAck_c (w:World) (x0 x1 x2 x3:Int) :
  Calls Tryz.prog 248 #[.agg #[.int .i64 x0,.int .i64 x1,.int .i64 x2,.int .i64 x3],.agg #[.int .i64 x0,.int .i64 x1,.int .i64 x2,.int .i64 x3]] w (RetV w (.bool true)):=by
 go_enter Tryz.func248,Tryz.ntmps248
 go_wp2
 repeat (go_quiet (fail);go_wp2)
 go_ret
 exact⟨rfl,xT⟩
theorem info_Int64S:(Tryz.prog.info? 62).map (fun i=>(i.zero,i.size,i.bytes))=some (some (.slice none 0 0),1,24):=by kernel_rfl
theorem info_Write:(Tryz.prog.info? 312).map (fun i=>(i.zero,i.size,i.bytes))=some (some (.agg #[.int .i64 0,.slice none 0 0]),2,32):=by kernel_rfl
theorem info_Msg:(Tryz.prog.info? 255).map (fun i=>(i.zero,i.size,i.bytes))=some (some (.agg #[.int .i64 0,.int .i64 0,.slice none 0 0]),3,40):=by kernel_rfl
theorem toWrite_c (w:World) (c0:Int) (s1:Value) (d1:List Int) (L1:Nat) (hL1:d1.length=L1) (h1:Ints 1 w s1 d1) (hs1:L1≤1048576) :
  Calls Tryz.prog 333 #[.agg #[.int .i64 c0,s1]] w (Ret w fun v w'=>∃ t1:Value,v=.agg #[.int .i64 c0,t1]∧OwnI w.heap.size 2 1 w' t1 d1):=by
 go_enter Tryz.func333,Tryz.ntmps333
 go_wp2_with (first|(go_at_call 48;refine (toInt64S_c _ s1 d1 L1 oM (h1.ext xT) hs1).mono ?_;rintro e w1 ⟨t1,rfl,hx1,g1⟩;obtain⟨ta1,tn1,tc1,rfl⟩:=g1.shape;have hz1:=hx1.size;obtain⟨hc1,hf1⟩:=hx1.cells;(repeat (first|simp only [World.size_alloc] at hz1 hc1 hf1 g1|simp only [World.size_setCell] at hz1 hc1 hf1 g1));have hy1_0:w.heap.size<w1.heap.size:=oM;have hy1_1:w.heap.size+1<w1.heap.size:=oM;have hy1_2:w.heap.size+1+1<w1.heap.size:=oM))
 refine bodyPost_ret (v:=.agg #[.int .i64 c0,.slice ta1 tn1 tc1]) ?_ rfl ?_
 ·
  simp [results,Tryz.results333,go_sem, *]
 refine⟨_,rfl,?_,_,rfl,(g1.keep ?_).mono ?_⟩
 all_goals clear hc1 hf1
 ·
  exact xT
 ·
  repeat' (first|(with_reducible exact Chg.refl _ _)|(with_reducible refine Chg.drewN ?_ _)|(with_reducible refine Chg.drew ?_)|(with_reducible refine Chg.alloc ?_ _)|(with_reducible refine Chg.setLow ?_ ?_ _)|(with_reducible refine Chg.ext ?_ (by assumption))|omega)
 omega
theorem szWrite_c (w:World) (c0:Int) (s1:Value) (d1:List Int) (L1:Nat) (hL1:d1.length=L1) (left:Int) (h1:Ints 1 w s1 d1) (hb0:0≤left) (hb1:left≤1048576) :
  Calls Tryz.prog 301 #[.agg #[.int .i64 c0,s1],.int .i64 left] w (Ret w fun v' _=>SzR left (L1) v'):=by
 go_enter Tryz.func301,Tryz.ntmps301
 go_wp2_with (first|(go_at_call 38;refine (szInt64S_c _ s1 d1 L1 oM _ (h1.ext xT) oM oM).mono ?_;rintro e w1 ⟨v1,rfl,hx1,hv⟩;have hz1:=hx1.size;obtain⟨hc1,hf1⟩:=hx1.cells;(repeat (first|simp only [World.size_alloc] at hz1 hc1 hf1|simp only [World.size_setCell] at hz1 hc1 hf1));have hy1_0:w.heap.size<w1.heap.size:=oM;rcases hv with ⟨rfl,q1⟩|⟨rfl,q1⟩))
 all_goals
  go_ret
  refine⟨_,rfl,?_,?_⟩
  ·
   exact xT
  first|exact .inl ⟨rfl,by omega⟩|(refine .inr ⟨congrArg (Value.int .i64) ?_,?_⟩ <;> omega)
theorem eqWrite_c (w:World) (c0:Int) (s1:Value) (t1:Value) (d1:List Int) (h1:Ints 1 w s1 d1) (k1:Ints 1 w t1 d1) :
  Calls Tryz.prog 341 #[.agg #[.int .i64 c0,s1],.agg #[.int .i64 c0,t1]] w (RetV w (.bool true)):=by
 go_enter Tryz.func341,Tryz.ntmps341
 go_wp2_with (first|(go_at_call 17;refine (eqInt64S_c _ s1 t1 d1 (h1.ext xT) (k1.ext xT)).mono ?_;rintro e w1 ⟨rfl,hx1⟩;have hz1:=hx1.size;obtain⟨hc1,hf1⟩:=hx1.cells;(repeat (first|simp only [World.size_alloc] at hz1 hc1 hf1|simp only [World.size_setCell] at hz1 hc1 hf1));have hy1_0:w.heap.size<w1.heap.size:=oM;have hy1_1:w.heap.size+1<w1.heap.size:=oM))
 go_ret
 refine⟨rfl,?_⟩
 exact xT
theorem toMsg_c (w:World) (c0:Int) (c1:Int) (s2:Value) (d2:List Int) (L2:Nat) (hL2:d2.length=L2) (h2:Ints 1 w s2 d2) (hs2:L2≤1048576) :
  Calls Tryz.prog 235 #[.agg #[.int .i64 c0,.int .i64 c1,s2]] w (Ret w fun v w'=>∃ t2:Value,v=.agg #[.int .i64 c0,.int .i64 c1,t2]∧OwnI w.heap.size 2 1 w' t2 d2):=by
 go_enter Tryz.func235,Tryz.ntmps235
 go_wp2_with (first|(go_at_call 48;refine (toInt64S_c _ s2 d2 L2 oM (h2.ext xT) hs2).mono ?_;rintro e w1 ⟨t2,rfl,hx1,g2⟩;obtain⟨ta2,tn2,tc2,rfl⟩:=g2.shape;have hz1:=hx1.size;obtain⟨hc1,hf1⟩:=hx1.cells;(repeat (first|simp only [World.size_alloc] at hz1 hc1 hf1 g2|simp only [World.size_setCell] at hz1 hc1 hf1 g2));have hy1_0:w.heap.size<w1.heap.size:=oM;have hy1_1:w.heap.size+1<w1.heap.size:=oM;have hy1_2:w.heap.size+1+1<w1.heap.size:=oM))
 refine bodyPost_ret (v:=.agg #[.int .i64 c0,.int .i64 c1,.slice ta2 tn2 tc2]) ?_ rfl ?_
 ·
  simp [results,Tryz.results235,go_sem, *]
 refine⟨_,rfl,?_,_,rfl,(g2.keep ?_).mono ?_⟩
 all_goals clear hc1 hf1
 ·
  exact xT
 ·
  repeat' (first|(with_reducible exact Chg.refl _ _)|(with_reducible refine Chg.drewN ?_ _)|(with_reducible refine Chg.drew ?_)|(with_reducible refine Chg.alloc ?_ _)|(with_reducible refine Chg.setLow ?_ ?_ _)|(with_reducible refine Chg.ext ?_ (by assumption))|omega)
 omega
theorem szMsg_c (w:World) (c0:Int) (c1:Int) (s2:Value) (d2:List Int) (L2:Nat) (hL2:d2.length=L2) (left:Int) (h2:Ints 1 w s2 d2) (hb0:0≤left) (hb1:left≤1048576) :
  Calls Tryz.prog 206 #[.agg #[.int .i64 c0,.int .i64 c1,s2],.int .i64 left] w (Ret w fun v' _=>SzR left (L2) v'):=by
 go_enter Tryz.func206,Tryz.ntmps206
 go_wp2_with (first|(go_at_call 38;refine (szInt64S_c _ s2 d2 L2 oM _ (h2.ext xT) oM oM).mono ?_;rintro e w1 ⟨v1,rfl,hx1,hv⟩;have hz1:=hx1.size;obtain⟨hc1,hf1⟩:=hx1.cells;(repeat (first|simp only [World.size_alloc] at hz1 hc1 hf1|simp only [World.size_setCell] at hz1 hc1 hf1));have hy1_0:w.heap.size<w1.heap.size:=oM;rcases hv with ⟨rfl,q1⟩|⟨rfl,q1⟩))
 all_goals
  go_ret
  refine⟨_,rfl,?_,?_⟩
  ·
   exact xT
  first|exact .inl ⟨rfl,by omega⟩|(refine .inr ⟨congrArg (Value.int .i64) ?_,?_⟩ <;> omega)
theorem eqMsg_c (w:World) (c0:Int) (c1:Int) (s2:Value) (t2:Value) (d2:List Int) (h2:Ints 1 w s2 d2) (k2:Ints 1 w t2 d2) :
  Calls Tryz.prog 256 #[.agg #[.int .i64 c0,.int .i64 c1,s2],.agg #[.int .i64 c0,.int .i64 c1,t2]] w (RetV w (.bool true)):=by
 go_enter Tryz.func256,Tryz.ntmps256
 go_wp2_with (first|(go_at_call 17;refine (eqInt64S_c _ s2 t2 d2 (h2.ext xT) (k2.ext xT)).mono ?_;rintro e w1 ⟨rfl,hx1⟩;have hz1:=hx1.size;obtain⟨hc1,hf1⟩:=hx1.cells;(repeat (first|simp only [World.size_alloc] at hz1 hc1 hf1|simp only [World.size_setCell] at hz1 hc1 hf1));have hy1_0:w.heap.size<w1.heap.size:=oM;have hy1_1:w.heap.size+1<w1.heap.size:=oM))
 go_ret
 refine⟨rfl,?_⟩
 exact xT
theorem ncell_int {r:NRow} {t:Value} {j:Nat} {u:Int} (h:r.1[j]?=some u):(ncell (r,t))[j]?=some (.int .i64 u):=by
 have hj:j<r.1.length:=(List.getElem?_eq_some_iff.1 h).1
 simp only [ncell]
 rw [List.getElem?_append_left (by simpa using hj),List.getElem?_map,h];rfl
theorem ncell_sl {r:NRow} {t:Value} {n:Nat} (h:r.1.length=n):(ncell (r,t))[n]?=some t:=by
 simp only [ncell]
 rw [List.getElem?_append_right (by simp [h])];simp [h]
theorem ncells_at {rows:List NRow} {ss:List Value} {N j:Nat} {u:Value} (r:NRow) (t:Value) (h:(ncells rows ss).length=N) (hj:(ncell (r,t))[j]?=some u):(ncells rows ss ++ ncell (r,t))[N+j]?=some u:=by
 rw [List.getElem?_append_right oM,h,Nat.add_sub_cancel_left];exact hj
theorem ncells_at0 {rows:List NRow} {ss:List Value} {N:Nat} {u:Value} (r:NRow) (t:Value) (h:(ncells rows ss).length=N) (hj:(ncell (r,t))[0]?=some u):(ncells rows ss ++ ncell (r,t))[N]?=some u:=ncells_at r t h hj
theorem toInt64SS_c (w:World) (v:Value) (rows:List NRow) (h:Nest 0 w v rows) (hs:rowsSize rows≤1048576) :
  Calls Tryz.prog 228 #[v] w (Ret w fun v' w'=>OwnNest w.heap.size 62 2 0 w' v' rows):=by
 have hwid:=h.1
 obtain⟨a,ca,rfl,hca,hm,ha⟩:=h.open_
 have HA:=Lib.hid ha;have HW:=Lib.hid hwid;have HZ:=Lib.hid hs
 have hL:rows.length≤1048576:=by unfold rowsSize at hs;omega
 clear ha h hwid hs
 unfold maxLen at hm
 obtain⟨i0,hi,hz0,hz1,hz2⟩:=info_parts info_Int64S
 go_enter Tryz.func228,Tryz.ntmps228
 have hmk:=fun W=>run_make (P:=Tryz.prog) W 22 62 i0 _ Tryz.underlying22 hi hz0 .i64 .i64 rows.length rows.length oM oM (by rw [hz2];omega) oM
 simp only [Int.toNat_natCast,hz1] at hmk
 go_wp2
 clear hmk
 go_loopw [4] (fun i wr=>∃ k:Nat,k≤rows.length∧i=.int .i64 k∧Ext w wr∧∃ cur ss,Blk wr w.heap.size 62 cur∧cur.size=rows.length * 1∧ss.length=k∧Pre cur (k) (ncells (rows.take k) ss)∧Inner (w.heap.size+1) 2 wr (.slice (some ⟨w.heap.size,0,none⟩) rows.length rows.length) (rows.take k) ss) (fun i _=>rows.length - (intOf i).toNat)
 case atStart=>exact⟨0,Nat.zero_le _,rfl,(Ext.refl _).alloc _,_,[],Blk.new _ _ _,by simp [size_madeCells],rfl,by simpa using Pre.zero _ _,⟨fun i s q h1=>by simp at h1,fun i j s t k _ h1=>by simp at h1,fun i s k h1=>by simp at h1⟩⟩
 case round =>
  obtain⟨k,hk,rfl,he,cur,ss,hblk,hsz,hssl,hpre,hinn⟩:=hrel
  by_cases hlt:k<rows.length
  ·
   obtain⟨r,b1,o1,s,hr,rfl,_,hci,hcs,hin0⟩:=HA.out k hlt
   have hrw:=HW.out r (List.mem_of_getElem? hr)
   have d0:=he.cell hcs
   simp only [Nat.add_zero,Nat.zero_add,Nat.mul_one] at d0
   have hin:=hin0.ext he
   obtain⟨sa,sn,sc,rfl⟩:=hin.shape
   have HR:=Lib.hid (rowsSize_row HZ.out hr)
   have HS:=Lib.hid hsz;have HRW:=Lib.hid hrw;have HK:=Lib.hid hr
   have hlen:(ncells (rows.take k) ss).length=k:=by rw [ncells_len (wid_take HW.out k) (by simp;omega)];simp;omega
   have HL:=Lib.hid hlen;have HSS:=Lib.hid hssl
   clear hlen hssl
   clear hci hcs hrw hr hsz hin0
   go_wp2_with (first|(go_at_call 48;refine (toInt64S_c _ _ r.2 r.2.length oM (hin.ext xT) HR.out).mono ?_;rintro e w1 ⟨t,rfl,hx,hg⟩;obtain⟨ta,tn,tc,rfl⟩:=hg.shape;have hb1:=hblk.ext hx;obtain⟨z0,g0⟩:∃ z,w1.cell? ⟨w.heap.size,k,none⟩=some z:=⟨_,by rw [hb1.cell];exact Array.getElem?_eq_getElem (by have:=HS.out;omega)⟩;have f0:=hb1.frozen (k)))
   have hlen:=HL.out;have hssl:=HSS.out
   go_roundw
   case rel =>
    refine⟨k+1,by omega,by go_num,((he.trans hx).setCell (Nat.le_refl _) _),_,ss ++ [.slice ta tn tc],(hb1.set_ _ _),by simpa using HS.out,by simp;omega,?_,?_⟩
    ·
     rw [take_snoc HK.out,ncells_snoc (by simp;omega)]
     refine (((hpre.app (Nat.le_of_eq hlen.symm)).set (ncells_at0 r (.slice ta tn tc) hlen (ncell_sl HRW.out)) (by have:=HS.out;omega))).cast ?_
     rfl
    rw [take_snoc HK.out]
    have hi1:=(hinn.ext hx)
    refine (Inner.snoc hi1 (by simp;omega) (hg.mono (by have:=he.size;have:=hblk.lt;omega)) (fun i s' k' h1 h2 h3=>?_) (fun k' h2 h3=>?_)).keep ((Chg.refl _ _).setLow oM _)
    ·
     have hli:i<(rows.take k).length:=by
      have:i<ss.length:=(List.getElem?_eq_some_iff.1 h1).1
      simp;omega
     have h4:=(hinn.own i s' _ h1 (List.getElem?_eq_getElem hli)).foot k' h2
     have h5:=hg.foot k' h3
     omega
    have h5:=hg.foot k' h2
    have:=hblk.lt
    simp [feet,Value.ownBlock] at h3
    omega
   case measure=>simp [intOf];omega
  obtain rfl:k=rows.length:=by omega
  go_wp2
  go_ret
  rw [List.take_length] at hpre hinn
  exact⟨_,rfl,he,ss,HW.out,hssl,Own.of_blk hblk (Nat.le_refl _) hsz (ncells_len HW.out hssl) (Nat.le_refl _) (by unfold maxLen;omega) (hpre.cast (by simp)),hinn.mono oM⟩
theorem eqInt64SS_c (w:World) (va vb:Value) (rows:List NRow) (ha:Nest 0 w va rows) (hb:Nest 0 w vb rows) :
  Calls Tryz.prog 249 #[va,vb] w (RetV w (.bool true)):=by
 have hwid:=ha.1
 obtain⟨a,ca,rfl,hca,hm,ha'⟩:=ha.open_
 obtain⟨b,cb,rfl,_,_,hb'⟩:=hb.open_
 have HA:=Lib.hid ha';have HB:=Lib.hid hb';have HW:=Lib.hid hwid
 clear ha' hb' ha hb hwid
 unfold maxLen at hm
 go_enter Tryz.func249,Tryz.ntmps249
 go_wp2
 go_loopw [5] (fun i wr=>∃ k:Nat,k≤rows.length∧i=.int .i64 k∧Ext w wr) (fun i _=>rows.length - (intOf i).toNat)
 case atStart=>exact⟨0,Nat.zero_le _,rfl,Ext.refl _⟩
 case round =>
  obtain⟨k,hk,rfl,he⟩:=hrel
  by_cases hlt:k<rows.length
  ·
   obtain⟨r,b1,o1,s,hr,rfl,_,hci,hcs,hin0⟩:=HA.out k hlt
   obtain⟨r2,b2,o2,t,hr2,rfl,_,hci2,hcs2,hin2⟩:=HB.out k hlt
   obtain rfl:r=r2:=by rw [hr] at hr2;exact Option.some.inj hr2
   have hrw:=HW.out r (List.mem_of_getElem? hr)
   have d0:=he.cell hcs
   simp only [Nat.add_zero,Nat.zero_add,Nat.mul_one] at d0
   have d02:=he.cell hcs2
   simp only [Nat.add_zero,Nat.zero_add,Nat.mul_one] at d02
   have g1:=hin0.ext he;have g2:=hin2.ext he
   obtain⟨sa,sn,sc,rfl⟩:=g1.shape;obtain⟨ta,tn,tc,rfl⟩:=g2.shape
   clear hci hcs hci2 hcs2 hrw hr hr2 hin0 hin2 
   go_wp2
   go_region_held3 (fun w'=>Ext wr w'∧w'.cell? ⟨b1,o1+k,none⟩=some (.slice sa sn sc)∧w'.cell? ⟨b2,o2+k,none⟩=some (.slice ta tn tc)) (first|exact⟨Ext.drew (Ext.refl _),d0,d02⟩|exact held_of (S:=fun w'=>Ext wr w'∧w'.cell? ⟨b1,o1+k,none⟩=some (.slice sa sn sc)∧w'.cell? ⟨b2,o2+k,none⟩=some (.slice ta tn tc)) (by assumption) hx (fun a b h x=>⟨h.1.trans x,(h.1.trans x).cell d0,(h.1.trans x).cell d02⟩)) ((go_at_call 17;refine (eqInt64S_c _ _ _ r.2 (g1.ext (And.left ‹_›)) (g2.ext (And.left ‹_›))).mono ?_;rintro e w' ⟨rfl,hx⟩))
   go_wp2
   go_roundw
   case rel=>exact⟨k+1,by omega,by go_num,he.trans (And.left ‹_›)⟩
   case measure=>simp [intOf];omega
  go_wp2
  go_ret
  exact⟨rfl,he⟩
theorem szInt64SS_c (w:World) (v:Value) (rows:List NRow) (left:Int) (h:Nest 0 w v rows) (h0:0≤left) (h1:left≤1048576) :
  Calls Tryz.prog 201 #[v,.int .i64 left] w (Ret w fun v' _=>SzR left (rowsSize rows) v'):=by
 have hwid:=h.1
 obtain⟨a,ca,rfl,hca,hm,ha⟩:=h.open_
 have HA:=Lib.hid ha;have HW:=Lib.hid hwid
 clear ha h hwid
 unfold maxLen at hm
 by_cases hlt:left<rows.length
 ·
  have ht:decide (left - (rows.length:Int)<0)=true:=by simp;omega
  go_enter Tryz.func201,Tryz.ntmps201
  go_wp2
  go_ret
  exact⟨_,rfl,Ext.refl _,.inl ⟨rfl,by unfold rowsSize;omega⟩⟩
 have ht:decide (left - (rows.length:Int)<0)=false:=by simp;omega
 go_enter Tryz.func201,Tryz.ntmps201
 go_wp2
 clear ht
 go_loopw [1,5] (fun lv i wr=>∃ k:Nat,k≤rows.length∧i=.int .i64 k∧(∃ z:Int,z=left - rows.length - (((rows.take k).map (fun r=>r.2.length)).sum:Nat)∧0≤z∧lv=.int .i64 z)∧Ext w wr) (fun _ i _=>rows.length - (intOf i).toNat)
 case atStart=>exact⟨0,Nat.zero_le _,rfl,⟨_,by simp,by omega,rfl⟩,Ext.refl _⟩
 case round =>
  obtain⟨k,hk,rfl,⟨z,hz,hz0,rfl⟩,he⟩:=hrel
  have HZ:=Lib.hid hz;
  by_cases hlt:k<rows.length
  ·
   obtain⟨r,b1,o1,s,hr,rfl,_,hci,hcs,hin0⟩:=HA.out k hlt
   have hrw:=HW.out r (List.mem_of_getElem? hr)
   have d0:=he.cell hcs
   simp only [Nat.add_zero,Nat.zero_add,Nat.mul_one] at d0
   have hin:=hin0.ext he
   obtain⟨sa,sn,sc,rfl⟩:=hin.shape
   have HK:=Lib.hid hr
   have hz1:z≤1048576:=by omega
   clear hci hcs hrw hr hin0 hz 
   go_wp2_with (first|(go_at_call 38;refine (szInt64S_c _ _ r.2 r.2.length oM _ (hin.ext xT) oM oM).mono ?_;rintro e w1 ⟨v1,rfl,hx,hv⟩;rcases hv with ⟨rfl,q1⟩|⟨rfl,q1⟩))
   ·
    go_ret
    refine⟨_,rfl,he.trans xT,.inl ⟨rfl,?_⟩⟩
    have h2:=rowsSize_take HK.out;have h3:=sum_take_le rows (k+1);have h4:=HZ.out
    unfold rowsSize;omega
   go_roundw
   case rel =>
    have h2:=rowsSize_take HK.out;have h4:=HZ.out
    exact⟨k+1,by omega,by go_num,⟨_,by omega,by omega,rfl⟩,he.trans xT⟩
   case measure=>simp [intOf];omega
  obtain rfl:k=rows.length:=by omega
  clear hz
  go_wp2
  go_ret
  have h4:=HZ.out
  rw [List.take_length] at h4
  refine⟨_,rfl,he,.inr ⟨congrArg (Value.int .i64) ?_,?_⟩⟩ <;> (unfold rowsSize;omega)
theorem toWriteS_c (w:World) (v:Value) (rows:List NRow) (h:Nest 1 w v rows) (hs:rowsSize rows≤1048576) :
  Calls Tryz.prog 229 #[v] w (Ret w fun v' w'=>OwnNest w.heap.size 312 2 1 w' v' rows):=by
 have hwid:=h.1
 obtain⟨a,ca,rfl,hca,hm,ha⟩:=h.open_
 have HA:=Lib.hid ha;have HW:=Lib.hid hwid;have HZ:=Lib.hid hs
 have hL:rows.length≤1048576:=by unfold rowsSize at hs;omega
 clear ha h hwid hs
 unfold maxLen at hm
 obtain⟨i0,hi,hz0,hz1,hz2⟩:=info_parts info_Write
 go_enter Tryz.func229,Tryz.ntmps229
 have hmk:=fun W=>run_make (P:=Tryz.prog) W 68 312 i0 _ Tryz.underlying68 hi hz0 .i64 .i64 rows.length rows.length oM oM (by rw [hz2];omega) oM
 simp only [Int.toNat_natCast,hz1] at hmk
 go_wp2
 clear hmk
 go_loopw [4] (fun i wr=>∃ k:Nat,k≤rows.length∧i=.int .i64 k∧Ext w wr∧∃ cur ss,Blk wr w.heap.size 312 cur∧cur.size=rows.length * 2∧ss.length=k∧Pre cur (k * 2) (ncells (rows.take k) ss)∧Inner (w.heap.size+1) 2 wr (.slice (some ⟨w.heap.size,0,none⟩) rows.length rows.length) (rows.take k) ss) (fun i _=>rows.length - (intOf i).toNat)
 case atStart=>exact⟨0,Nat.zero_le _,rfl,(Ext.refl _).alloc _,_,[],Blk.new _ _ _,by simp [size_madeCells],rfl,by simpa using Pre.zero _ _,⟨fun i s q h1=>by simp at h1,fun i j s t k _ h1=>by simp at h1,fun i s k h1=>by simp at h1⟩⟩
 case round =>
  obtain⟨k,hk,rfl,he,cur,ss,hblk,hsz,hssl,hpre,hinn⟩:=hrel
  by_cases hlt:k<rows.length
  ·
   obtain⟨r,b1,o1,s,hr,rfl,_,hci,hcs,hin0⟩:=HA.out k hlt
   have hrw:=HW.out r (List.mem_of_getElem? hr)
   obtain⟨x0,hx0⟩:∃ u,r.1[0]?=some u:=⟨_,List.getElem?_eq_getElem (by rw [hrw];decide)⟩
   have d0:=he.cell (hci 0 _ hx0)
   have d1:=he.cell hcs
   simp only [Nat.add_zero,Nat.reduceAdd] at d0 d1
   have hin:=hin0.ext he
   obtain⟨sa,sn,sc,rfl⟩:=hin.shape
   have HR:=Lib.hid (rowsSize_row HZ.out hr)
   have HS:=Lib.hid hsz;have HRW:=Lib.hid hrw;have HK:=Lib.hid hr
   have hlen:(ncells (rows.take k) ss).length=k * 2:=by rw [ncells_len (wid_take HW.out k) (by simp;omega)];simp;omega
   have HL:=Lib.hid hlen;have HSS:=Lib.hid hssl
   clear hlen hssl
   have HX0:=Lib.hid hx0;clear hx0
   clear hci hcs hrw hr hsz hin0
   go_wp2_with (first|(go_at_call 333;refine (toWrite_c _ _ _ r.2 r.2.length oM (hin.ext xT) HR.out).mono ?_;rintro e w1 ⟨_,rfl,hx,t,rfl,hg⟩;obtain⟨ta,tn,tc,rfl⟩:=hg.shape;have hb1:=hblk.ext hx;obtain⟨z0,g0⟩:∃ z,w1.cell? ⟨w.heap.size,k * 2,none⟩=some z:=⟨_,by rw [hb1.cell];exact Array.getElem?_eq_getElem (by have:=HS.out;omega)⟩;have f0:=hb1.frozen (k * 2);obtain⟨z1,g1⟩:∃ z,w1.cell? ⟨w.heap.size,k * 2+1,none⟩=some z:=⟨_,by rw [hb1.cell];exact Array.getElem?_eq_getElem (by have:=HS.out;omega)⟩;have f1:=hb1.frozen (k * 2+1)))
   have hlen:=HL.out;have hssl:=HSS.out
   go_roundw
   case rel =>
    refine⟨k+1,by omega,by go_num,(((he.trans hx).setCell (Nat.le_refl _) _).setCell (Nat.le_refl _) _),_,ss ++ [.slice ta tn tc],((hb1.set_ _ _).set_ _ _),by simp;exact HS.out,by simp;omega,?_,?_⟩
    ·
     rw [take_snoc HK.out,ncells_snoc (by simp;omega)]
     refine ((((hpre.app (Nat.le_of_eq hlen.symm)).set (ncells_at0 r (.slice ta tn tc) hlen (ncell_int HX0.out)) (by have:=HS.out;omega)).set (ncells_at r (.slice ta tn tc) hlen (ncell_sl HRW.out)) (by have:=HS.out;simp;omega))).cast ?_
     omega
    rw [take_snoc HK.out]
    have hi1:=(hinn.ext hx)
    refine (Inner.snoc hi1 (by simp;omega) (hg.mono (by have:=he.size;have:=hblk.lt;omega)) (fun i s' k' h1 h2 h3=>?_) (fun k' h2 h3=>?_)).keep (((Chg.refl _ _).setLow oM _).setLow oM _)
    ·
     have hli:i<(rows.take k).length:=by
      have:i<ss.length:=(List.getElem?_eq_some_iff.1 h1).1
      simp;omega
     have h4:=(hinn.own i s' _ h1 (List.getElem?_eq_getElem hli)).foot k' h2
     have h5:=hg.foot k' h3
     omega
    have h5:=hg.foot k' h2
    have:=hblk.lt
    simp [feet,Value.ownBlock] at h3
    omega
   case measure=>simp [intOf];omega
  obtain rfl:k=rows.length:=by omega
  go_wp2
  go_ret
  rw [List.take_length] at hpre hinn
  exact⟨_,rfl,he,ss,HW.out,hssl,Own.of_blk hblk (Nat.le_refl _) hsz (ncells_len HW.out hssl) (Nat.le_refl _) (by unfold maxLen;omega) hpre,hinn.mono oM⟩
theorem eqWriteS_c (w:World) (va vb:Value) (rows:List NRow) (ha:Nest 1 w va rows) (hb:Nest 1 w vb rows) :
  Calls Tryz.prog 250 #[va,vb] w (RetV w (.bool true)):=by
 have hwid:=ha.1
 obtain⟨a,ca,rfl,hca,hm,ha'⟩:=ha.open_
 obtain⟨b,cb,rfl,_,_,hb'⟩:=hb.open_
 have HA:=Lib.hid ha';have HB:=Lib.hid hb';have HW:=Lib.hid hwid
 clear ha' hb' ha hb hwid
 unfold maxLen at hm
 go_enter Tryz.func250,Tryz.ntmps250
 go_wp2
 go_loopw [5] (fun i wr=>∃ k:Nat,k≤rows.length∧i=.int .i64 k∧Ext w wr) (fun i _=>rows.length - (intOf i).toNat)
 case atStart=>exact⟨0,Nat.zero_le _,rfl,Ext.refl _⟩
 case round =>
  obtain⟨k,hk,rfl,he⟩:=hrel
  by_cases hlt:k<rows.length
  ·
   obtain⟨r,b1,o1,s,hr,rfl,_,hci,hcs,hin0⟩:=HA.out k hlt
   obtain⟨r2,b2,o2,t,hr2,rfl,_,hci2,hcs2,hin2⟩:=HB.out k hlt
   obtain rfl:r=r2:=by rw [hr] at hr2;exact Option.some.inj hr2
   have hrw:=HW.out r (List.mem_of_getElem? hr)
   obtain⟨x0,hx0⟩:∃ u,r.1[0]?=some u:=⟨_,List.getElem?_eq_getElem (by rw [hrw];decide)⟩
   have d0:=he.cell (hci 0 _ hx0)
   have d1:=he.cell hcs
   simp only [Nat.add_zero,Nat.reduceAdd] at d0 d1
   have d02:=he.cell (hci2 0 _ hx0)
   have d12:=he.cell hcs2
   simp only [Nat.add_zero,Nat.reduceAdd] at d02 d12
   have g1:=hin0.ext he;have g2:=hin2.ext he
   obtain⟨sa,sn,sc,rfl⟩:=g1.shape;obtain⟨ta,tn,tc,rfl⟩:=g2.shape
   clear hci hcs hci2 hcs2 hrw hr hr2 hin0 hin2 hx0
   go_wp2
   go_region_held3 (fun w'=>Ext wr w'∧w'.cell? ⟨b1,o1+k * 2,none⟩=some (.int .i64 x0)∧w'.cell? ⟨b1,o1+k * 2+1,none⟩=some (.slice sa sn sc)∧w'.cell? ⟨b2,o2+k * 2,none⟩=some (.int .i64 x0)∧w'.cell? ⟨b2,o2+k * 2+1,none⟩=some (.slice ta tn tc)) (first|exact⟨Ext.drew (Ext.refl _),d0,d1,d02,d12⟩|exact held_of (S:=fun w'=>Ext wr w'∧w'.cell? ⟨b1,o1+k * 2,none⟩=some (.int .i64 x0)∧w'.cell? ⟨b1,o1+k * 2+1,none⟩=some (.slice sa sn sc)∧w'.cell? ⟨b2,o2+k * 2,none⟩=some (.int .i64 x0)∧w'.cell? ⟨b2,o2+k * 2+1,none⟩=some (.slice ta tn tc)) (by assumption) hx (fun a b h x=>⟨h.1.trans x,(h.1.trans x).cell d0,(h.1.trans x).cell d1,(h.1.trans x).cell d02,(h.1.trans x).cell d12⟩)) ((go_at_call 341;refine (eqWrite_c _ _ _ _ r.2 (g1.ext (And.left ‹_›)) (g2.ext (And.left ‹_›))).mono ?_;rintro e w' ⟨rfl,hx⟩))
   go_wp2
   go_roundw
   case rel=>exact⟨k+1,by omega,by go_num,he.trans (And.left ‹_›)⟩
   case measure=>simp [intOf];omega
  go_wp2
  go_ret
  exact⟨rfl,he⟩
theorem szWriteS_c (w:World) (v:Value) (rows:List NRow) (left:Int) (h:Nest 1 w v rows) (h0:0≤left) (h1:left≤1048576) :
  Calls Tryz.prog 202 #[v,.int .i64 left] w (Ret w fun v' _=>SzR left (rowsSize rows) v'):=by
 have hwid:=h.1
 obtain⟨a,ca,rfl,hca,hm,ha⟩:=h.open_
 have HA:=Lib.hid ha;have HW:=Lib.hid hwid
 clear ha h hwid
 unfold maxLen at hm
 by_cases hlt:left<rows.length
 ·
  have ht:decide (left - (rows.length:Int)<0)=true:=by simp;omega
  go_enter Tryz.func202,Tryz.ntmps202
  go_wp2
  go_ret
  exact⟨_,rfl,Ext.refl _,.inl ⟨rfl,by unfold rowsSize;omega⟩⟩
 have ht:decide (left - (rows.length:Int)<0)=false:=by simp;omega
 go_enter Tryz.func202,Tryz.ntmps202
 go_wp2
 clear ht
 go_loopw [1,5] (fun lv i wr=>∃ k:Nat,k≤rows.length∧i=.int .i64 k∧(∃ z:Int,z=left - rows.length - (((rows.take k).map (fun r=>r.2.length)).sum:Nat)∧0≤z∧lv=.int .i64 z)∧Ext w wr) (fun _ i _=>rows.length - (intOf i).toNat)
 case atStart=>exact⟨0,Nat.zero_le _,rfl,⟨_,by simp,by omega,rfl⟩,Ext.refl _⟩
 case round =>
  obtain⟨k,hk,rfl,⟨z,hz,hz0,rfl⟩,he⟩:=hrel
  have HZ:=Lib.hid hz;
  by_cases hlt:k<rows.length
  ·
   obtain⟨r,b1,o1,s,hr,rfl,_,hci,hcs,hin0⟩:=HA.out k hlt
   have hrw:=HW.out r (List.mem_of_getElem? hr)
   obtain⟨x0,hx0⟩:∃ u,r.1[0]?=some u:=⟨_,List.getElem?_eq_getElem (by rw [hrw];decide)⟩
   have d0:=he.cell (hci 0 _ hx0)
   have d1:=he.cell hcs
   simp only [Nat.add_zero,Nat.reduceAdd] at d0 d1
   have hin:=hin0.ext he
   obtain⟨sa,sn,sc,rfl⟩:=hin.shape
   have HK:=Lib.hid hr
   have hz1:z≤1048576:=by omega
   clear hci hcs hrw hr hin0 hz hx0
   go_wp2_with (first|(go_at_call 301;refine (szWrite_c _ _ _ r.2 r.2.length rfl _ (hin.ext xT) oM oM).mono ?_;rintro e w1 ⟨v1,rfl,hx,hv⟩;rcases hv with ⟨rfl,q1⟩|⟨rfl,q1⟩))
   ·
    go_ret
    refine⟨_,rfl,he.trans xT,.inl ⟨rfl,?_⟩⟩
    have h2:=rowsSize_take HK.out;have h3:=sum_take_le rows (k+1);have h4:=HZ.out
    unfold rowsSize;omega
   go_roundw
   case rel =>
    have h2:=rowsSize_take HK.out;have h4:=HZ.out
    exact⟨k+1,by omega,by go_num,⟨_,by omega,by omega,rfl⟩,he.trans xT⟩
   case measure=>simp [intOf];omega
  obtain rfl:k=rows.length:=by omega
  clear hz
  go_wp2
  go_ret
  have h4:=HZ.out
  rw [List.take_length] at h4
  refine⟨_,rfl,he,.inr ⟨congrArg (Value.int .i64) ?_,?_⟩⟩ <;> (unfold rowsSize;omega)
theorem szDisk_c (w:World) (s0:Value) (d0:List (List Int × List Int)) (s1:Value) (d1:List (List Int × List Int)) (left:Int) (h0:Nest 0 w s0 d0) (h1:Nest 1 w s1 d1) (hb0:0≤left) (hb1:left≤1048576) :
  Calls Tryz.prog 101 #[.agg #[s0,s1],.int .i64 left] w (Ret w fun v' _=>SzR left (rowsSize d0+rowsSize d1) v'):=by
 go_enter Tryz.func101,Tryz.ntmps101
 go_wp2_with (first|(go_at_call 201;refine (szInt64SS_c _ s0 d0 _ (h0.ext xT) oM oM).mono ?_;rintro e w1 ⟨v1,rfl,hx1,hv⟩;have hz1:=hx1.size;obtain⟨hc1,hf1⟩:=hx1.cells;(repeat (first|simp only [World.size_alloc] at hz1 hc1 hf1|simp only [World.size_setCell] at hz1 hc1 hf1));have hy1_0:w.heap.size<w1.heap.size:=oM;rcases hv with ⟨rfl,q1⟩|⟨rfl,q1⟩)|(go_at_call 202;refine (szWriteS_c _ s1 d1 _ (h1.ext xT) oM oM).mono ?_;rintro e w2 ⟨v2,rfl,hx2,hv⟩;have hz2:=hx2.size;obtain⟨hc2,hf2⟩:=hx2.cells;(repeat (first|simp only [World.size_alloc] at hz2 hc2 hf2|simp only [World.size_setCell] at hz2 hc2 hf2));have hy2_0:w.heap.size<w2.heap.size:=oM;rcases hv with ⟨rfl,q2⟩|⟨rfl,q2⟩))
 all_goals
  go_ret
  refine⟨_,rfl,?_,?_⟩
  ·
   exact xT
  first|exact .inl ⟨rfl,by omega⟩|(refine .inr ⟨congrArg (Value.int .i64) ?_,?_⟩ <;> omega)
theorem eqDisk_c (w:World) (s0:Value) (t0:Value) (d0:List (List Int × List Int)) (s1:Value) (t1:Value) (d1:List (List Int × List Int)) (h0:Nest 0 w s0 d0) (k0:Nest 0 w t0 d0) (h1:Nest 1 w s1 d1) (k1:Nest 1 w t1 d1) :
  Calls Tryz.prog 145 #[.agg #[s0,s1],.agg #[t0,t1]] w (RetV w (.bool true)):=by
 go_enter Tryz.func145,Tryz.ntmps145
 go_wp2_with (first|(go_at_call 249;refine (eqInt64SS_c _ s0 t0 d0 (h0.ext xT) (k0.ext xT)).mono ?_;rintro e w1 ⟨rfl,hx1⟩;have hz1:=hx1.size;obtain⟨hc1,hf1⟩:=hx1.cells;(repeat (first|simp only [World.size_alloc] at hz1 hc1 hf1|simp only [World.size_setCell] at hz1 hc1 hf1));have hy1_0:w.heap.size<w1.heap.size:=oM;have hy1_1:w.heap.size+1<w1.heap.size:=oM)|(go_at_call 250;refine (eqWriteS_c _ s1 t1 d1 (h1.ext xT) (k1.ext xT)).mono ?_;rintro e w2 ⟨rfl,hx2⟩;have hz2:=hx2.size;obtain⟨hc2,hf2⟩:=hx2.cells;(repeat (first|simp only [World.size_alloc] at hz2 hc2 hf2|simp only [World.size_setCell] at hz2 hc2 hf2));have hy2_0:w.heap.size<w2.heap.size:=oM;have hy2_1:w.heap.size+1<w2.heap.size:=oM))
 go_ret
 refine⟨rfl,?_⟩
 exact xT
theorem info_Pair:(Tryz.prog.info? 362).map (fun i=>(i.zero,i.size,i.bytes))=some (some (.agg #[.int .i64 0,.int .i64 0]),2,16):=by kernel_rfl
theorem eqPair_c (w:World) (x0 x1:Int) :
  Calls Tryz.prog 342 #[.agg #[.int .i64 x0,.int .i64 x1],.agg #[.int .i64 x0,.int .i64 x1]] w (RetV w (.bool true)):=by
 go_enter Tryz.func342,Tryz.ntmps342
 go_wp2
 repeat (go_quiet (fail);go_wp2)
 go_ret
 exact⟨rfl,xT⟩
theorem eqPairS_c (w:World) (va vb:Value) (xs:List Int) (ha:Ints 2 w va xs) (hb:Ints 2 w vb xs) :
  Calls Tryz.prog 251 #[va,vb] w (RetV w (.bool true)):=by
 obtain⟨a,len,ca,rfl,hl,hca,hm,ha'⟩:=ha.open_
 obtain⟨b,len',cb,rfl,hl',_,_,hb'⟩:=hb.open_
 obtain rfl:len=len':=by omega
 have HA:=Lib.hid ha';have HB:=Lib.hid hb'
 clear ha' hb' hl hl' ha hb
 unfold maxLen at hm
 go_enter Tryz.func251,Tryz.ntmps251
 go_wp2
 go_loopw [5] (fun i wr=>∃ k:Nat,k≤len∧i=.int .i64 k∧Ext w wr) (fun i _=>len - (intOf i).toNat)
 case atStart=>exact⟨0,Nat.zero_le _,rfl,Ext.refl _⟩
 case round =>
  obtain⟨k,hk,rfl,he⟩:=hrel
  by_cases hlt:k<len
  ·
   obtain⟨b1,o1,rfl,_,c1⟩:=HA.out k hlt
   obtain⟨b2,o2,rfl,_,c2⟩:=HB.out k hlt
   obtain⟨x0,hx0,c10⟩:=c1 0 oM
   obtain⟨x1,hx1,c11⟩:=c1 1 oM
   obtain⟨y0,hy0,c20⟩:=c2 0 oM
   obtain⟨y1,hy1,c21⟩:=c2 1 oM
   obtain rfl:x0=y0:=by rw [hx0] at hy0;exact Option.some.inj hy0
   obtain rfl:x1=y1:=by rw [hx1] at hy1;exact Option.some.inj hy1
   have d0:=he.cell c10;have e0:=he.cell c20
   have d1:=he.cell c11;have e1:=he.cell c21
   simp only [Nat.add_zero] at d0 e0
   clear c1 c2 c10 c20 hx0 hy0 c11 c21 hx1 hy1
   go_wp2
   go_region_held3 (fun w'=>Ext wr w'∧w'.cell? ⟨b1,o1+k * 2,none⟩=some (.int .i64 x0)∧w'.cell? ⟨b1,o1+k * 2+1,none⟩=some (.int .i64 x1)∧w'.cell? ⟨b2,o2+k * 2,none⟩=some (.int .i64 x0)∧w'.cell? ⟨b2,o2+k * 2+1,none⟩=some (.int .i64 x1)) (first|exact⟨Ext.drew (Ext.refl _),d0,d1,e0,e1⟩|exact held_of (S:=fun w'=>Ext wr w'∧w'.cell? ⟨b1,o1+k * 2,none⟩=some (.int .i64 x0)∧w'.cell? ⟨b1,o1+k * 2+1,none⟩=some (.int .i64 x1)∧w'.cell? ⟨b2,o2+k * 2,none⟩=some (.int .i64 x0)∧w'.cell? ⟨b2,o2+k * 2+1,none⟩=some (.int .i64 x1)) (by assumption) hx (fun a b h x=>⟨h.1.trans x,(h.1.trans x).cell d0,(h.1.trans x).cell d1,(h.1.trans x).cell e0,(h.1.trans x).cell e1⟩)) ((go_at_call 342;refine (eqPair_c _ _ _).mono ?_;rintro e w' ⟨rfl,hx⟩))
   go_wp2
   go_roundw
   case rel=>exact⟨k+1,by omega,by go_num,he.trans (And.left ‹_›)⟩
   case measure=>simp [intOf];omega
  go_wp2
  go_ret
  exact⟨rfl,he⟩
theorem info_Job:(Tryz.prog.info? 366).map (fun i=>(i.zero,i.size,i.bytes))=some (some (.agg #[.int .i64 0,.int .i64 0,.int .i64 0,.int .i64 0,.int .i64 0]),5,40):=by kernel_rfl
theorem eqJob_c (w:World) (x0 x1 x2 x3 x4:Int) :
  Calls Tryz.prog 343 #[.agg #[.int .i64 x0,.int .i64 x1,.int .i64 x2,.int .i64 x3,.int .i64 x4],.agg #[.int .i64 x0,.int .i64 x1,.int .i64 x2,.int .i64 x3,.int .i64 x4]] w (RetV w (.bool true)):=by
 go_enter Tryz.func343,Tryz.ntmps343
 go_wp2
 repeat (go_quiet (fail);go_wp2)
 go_ret
 exact⟨rfl,xT⟩
theorem eqJobS_c (w:World) (va vb:Value) (xs:List Int) (ha:Ints 5 w va xs) (hb:Ints 5 w vb xs) :
  Calls Tryz.prog 252 #[va,vb] w (RetV w (.bool true)):=by
 obtain⟨a,len,ca,rfl,hl,hca,hm,ha'⟩:=ha.open_
 obtain⟨b,len',cb,rfl,hl',_,_,hb'⟩:=hb.open_
 obtain rfl:len=len':=by omega
 have HA:=Lib.hid ha';have HB:=Lib.hid hb'
 clear ha' hb' hl hl' ha hb
 unfold maxLen at hm
 go_enter Tryz.func252,Tryz.ntmps252
 go_wp2
 go_loopw [5] (fun i wr=>∃ k:Nat,k≤len∧i=.int .i64 k∧Ext w wr) (fun i _=>len - (intOf i).toNat)
 case atStart=>exact⟨0,Nat.zero_le _,rfl,Ext.refl _⟩
 case round =>
  obtain⟨k,hk,rfl,he⟩:=hrel
  by_cases hlt:k<len
  ·
   obtain⟨b1,o1,rfl,_,c1⟩:=HA.out k hlt
   obtain⟨b2,o2,rfl,_,c2⟩:=HB.out k hlt
   obtain⟨x0,hx0,c10⟩:=c1 0 oM
   obtain⟨x1,hx1,c11⟩:=c1 1 oM
   obtain⟨x2,hx2,c12⟩:=c1 2 oM
   obtain⟨x3,hx3,c13⟩:=c1 3 oM
   obtain⟨x4,hx4,c14⟩:=c1 4 oM
   obtain⟨y0,hy0,c20⟩:=c2 0 oM
   obtain⟨y1,hy1,c21⟩:=c2 1 oM
   obtain⟨y2,hy2,c22⟩:=c2 2 oM
   obtain⟨y3,hy3,c23⟩:=c2 3 oM
   obtain⟨y4,hy4,c24⟩:=c2 4 oM
   obtain rfl:x0=y0:=by rw [hx0] at hy0;exact Option.some.inj hy0
   obtain rfl:x1=y1:=by rw [hx1] at hy1;exact Option.some.inj hy1
   obtain rfl:x2=y2:=by rw [hx2] at hy2;exact Option.some.inj hy2
   obtain rfl:x3=y3:=by rw [hx3] at hy3;exact Option.some.inj hy3
   obtain rfl:x4=y4:=by rw [hx4] at hy4;exact Option.some.inj hy4
   have d0:=he.cell c10;have e0:=he.cell c20
   have d1:=he.cell c11;have e1:=he.cell c21
   have d2:=he.cell c12;have e2:=he.cell c22
   have d3:=he.cell c13;have e3:=he.cell c23
   have d4:=he.cell c14;have e4:=he.cell c24
   simp only [Nat.add_zero] at d0 e0
   clear c1 c2 c10 c20 hx0 hy0 c11 c21 hx1 hy1 c12 c22 hx2 hy2 c13 c23 hx3 hy3 c14 c24 hx4 hy4
   go_wp2
   go_region_held3 (fun w'=>Ext wr w'∧w'.cell? ⟨b1,o1+k * 5,none⟩=some (.int .i64 x0)∧w'.cell? ⟨b1,o1+k * 5+1,none⟩=some (.int .i64 x1)∧w'.cell? ⟨b1,o1+k * 5+2,none⟩=some (.int .i64 x2)∧w'.cell? ⟨b1,o1+k * 5+3,none⟩=some (.int .i64 x3)∧w'.cell? ⟨b1,o1+k * 5+4,none⟩=some (.int .i64 x4)∧w'.cell? ⟨b2,o2+k * 5,none⟩=some (.int .i64 x0)∧w'.cell? ⟨b2,o2+k * 5+1,none⟩=some (.int .i64 x1)∧w'.cell? ⟨b2,o2+k * 5+2,none⟩=some (.int .i64 x2)∧w'.cell? ⟨b2,o2+k * 5+3,none⟩=some (.int .i64 x3)∧w'.cell? ⟨b2,o2+k * 5+4,none⟩=some (.int .i64 x4)) (first|exact⟨Ext.drew (Ext.refl _),d0,d1,d2,d3,d4,e0,e1,e2,e3,e4⟩|exact held_of (S:=fun w'=>Ext wr w'∧w'.cell? ⟨b1,o1+k * 5,none⟩=some (.int .i64 x0)∧w'.cell? ⟨b1,o1+k * 5+1,none⟩=some (.int .i64 x1)∧w'.cell? ⟨b1,o1+k * 5+2,none⟩=some (.int .i64 x2)∧w'.cell? ⟨b1,o1+k * 5+3,none⟩=some (.int .i64 x3)∧w'.cell? ⟨b1,o1+k * 5+4,none⟩=some (.int .i64 x4)∧w'.cell? ⟨b2,o2+k * 5,none⟩=some (.int .i64 x0)∧w'.cell? ⟨b2,o2+k * 5+1,none⟩=some (.int .i64 x1)∧w'.cell? ⟨b2,o2+k * 5+2,none⟩=some (.int .i64 x2)∧w'.cell? ⟨b2,o2+k * 5+3,none⟩=some (.int .i64 x3)∧w'.cell? ⟨b2,o2+k * 5+4,none⟩=some (.int .i64 x4)) (by assumption) hx (fun a b h x=>⟨h.1.trans x,(h.1.trans x).cell d0,(h.1.trans x).cell d1,(h.1.trans x).cell d2,(h.1.trans x).cell d3,(h.1.trans x).cell d4,(h.1.trans x).cell e0,(h.1.trans x).cell e1,(h.1.trans x).cell e2,(h.1.trans x).cell e3,(h.1.trans x).cell e4⟩)) ((go_at_call 343;refine (eqJob_c _ _ _ _ _ _).mono ?_;rintro e w' ⟨rfl,hx⟩))
   go_wp2
   go_roundw
   case rel=>exact⟨k+1,by omega,by go_num,he.trans (And.left ‹_›)⟩
   case measure=>simp [intOf];omega
  go_wp2
  go_ret
  exact⟨rfl,he⟩
theorem eqLease_c (w:World) (x0 x1 x2:Int) :
  Calls Tryz.prog 253 #[.agg #[.int .i64 x0,.int .i64 x1,.int .i64 x2],.agg #[.int .i64 x0,.int .i64 x1,.int .i64 x2]] w (RetV w (.bool true)):=by
 go_enter Tryz.func253,Tryz.ntmps253
 go_wp2
 repeat (go_quiet (fail);go_wp2)
 go_ret
 exact⟨rfl,xT⟩
theorem eqState_c (w:World) (c0:Int) (c1:Int) (s2:Value) (t2:Value) (d2:List Int) (s3:Value) (t3:Value) (d3:List Int) (c4:Int) (c5:Int) (c6:Int) (h2:Ints 2 w s2 d2) (k2:Ints 2 w t2 d2) (h3:Ints 5 w s3 d3) (k3:Ints 5 w t3 d3) :
  Calls Tryz.prog 146 #[.agg #[.int .i64 c0,.int .i64 c1,s2,s3,.int .i64 c4,.int .i64 c5,.int .i64 c6],.agg #[.int .i64 c0,.int .i64 c1,t2,t3,.int .i64 c4,.int .i64 c5,.int .i64 c6]] w (RetV w (.bool true)):=by
 go_enter Tryz.func146,Tryz.ntmps146
 go_wp2_with (first|(go_at_call 251;refine (eqPairS_c _ s2 t2 d2 (h2.ext xT) (k2.ext xT)).mono ?_;rintro e w1 ⟨rfl,hx1⟩;have hz1:=hx1.size;obtain⟨hc1,hf1⟩:=hx1.cells;(repeat (first|simp only [World.size_alloc] at hz1 hc1 hf1|simp only [World.size_setCell] at hz1 hc1 hf1));have hy1_0:w.heap.size<w1.heap.size:=oM;have hy1_1:w.heap.size+1<w1.heap.size:=oM)|(go_at_call 252;refine (eqJobS_c _ s3 t3 d3 (h3.ext xT) (k3.ext xT)).mono ?_;rintro e w2 ⟨rfl,hx2⟩;have hz2:=hx2.size;obtain⟨hc2,hf2⟩:=hx2.cells;(repeat (first|simp only [World.size_alloc] at hz2 hc2 hf2|simp only [World.size_setCell] at hz2 hc2 hf2));have hy2_0:w.heap.size<w2.heap.size:=oM;have hy2_1:w.heap.size+1<w2.heap.size:=oM)|(go_at_call 253;refine (eqLease_c _ c4 c5 c6).mono ?_;rintro e w3 ⟨rfl,hx3⟩;have hz3:=hx3.size;obtain⟨hc3,hf3⟩:=hx3.cells;(repeat (first|simp only [World.size_alloc] at hz3 hc3 hf3|simp only [World.size_setCell] at hz3 hc3 hf3));have hy3_0:w.heap.size<w3.heap.size:=oM;have hy3_1:w.heap.size+1<w3.heap.size:=oM))
 go_ret
 refine⟨rfl,?_⟩
 exact xT
theorem eqStore_c (w:World) (s0:Value) (t0:Value) (d0:List (List Int × List Int)) (s1:Value) (t1:Value) (d1:List (List Int × List Int)) (c2:Int) (c3:Int) (s4:Value) (t4:Value) (d4:List Int) (s5:Value) (t5:Value) (d5:List Int) (c6:Int) (c7:Int) (c8:Int) (c9:Int) (c10:Int) (c11:Int) (h0:Nest 0 w s0 d0) (k0:Nest 0 w t0 d0) (h1:Nest 1 w s1 d1) (k1:Nest 1 w t1 d1) (h4:Ints 2 w s4 d4) (k4:Ints 2 w t4 d4) (h5:Ints 5 w s5 d5) (k5:Ints 5 w t5 d5) :
  Calls Tryz.prog 53 #[.agg #[s0,s1,.int .i64 c2,.int .i64 c3,s4,s5,.int .i64 c6,.int .i64 c7,.int .i64 c8,.int .i64 c9,.int .i64 c10,.int .i64 c11],.agg #[t0,t1,.int .i64 c2,.int .i64 c3,t4,t5,.int .i64 c6,.int .i64 c7,.int .i64 c8,.int .i64 c9,.int .i64 c10,.int .i64 c11]] w (RetV w (.bool true)):=by
 go_enter Tryz.func53,Tryz.ntmps53
 go_wp2_with (first|(go_at_call 145;refine (eqDisk_c _ s0 t0 d0 s1 t1 d1 (h0.ext xT) (k0.ext xT) (h1.ext xT) (k1.ext xT)).mono ?_;rintro e w1 ⟨rfl,hx1⟩;have hz1:=hx1.size;obtain⟨hc1,hf1⟩:=hx1.cells;(repeat (first|simp only [World.size_alloc] at hz1 hc1 hf1|simp only [World.size_setCell] at hz1 hc1 hf1));have hy1_0:w.heap.size<w1.heap.size:=oM;have hy1_1:w.heap.size+1<w1.heap.size:=oM)|(go_at_call 146;refine (eqState_c _ c2 c3 s4 t4 d4 s5 t5 d5 c6 c7 c8 (h4.ext xT) (k4.ext xT) (h5.ext xT) (k5.ext xT)).mono ?_;rintro e w2 ⟨rfl,hx2⟩;have hz2:=hx2.size;obtain⟨hc2,hf2⟩:=hx2.cells;(repeat (first|simp only [World.size_alloc] at hz2 hc2 hf2|simp only [World.size_setCell] at hz2 hc2 hf2));have hy2_0:w.heap.size<w2.heap.size:=oM;have hy2_1:w.heap.size+1<w2.heap.size:=oM))
 go_ret
 refine⟨rfl,?_⟩
 exact xT
theorem l1In_c (w:World) (x lo hi:Int):Calls Tryz.prog 303 #[.int .i64 x,.int .i64 lo,.int .i64 hi] w fun e w'=>e=.returned (.bool (inb x lo hi))∧w=w':=by
 by_cases h1:lo≤x
 ·
  by_cases h2:x≤hi
  ·
   rw [inb_of h1 h2]
   go_enter Tryz.func303,Tryz.ntmps303
   go_wp2
   go_ret
   exact⟨rfl,rfl⟩
  rw [inb_hi oM]
  go_enter Tryz.func303,Tryz.ntmps303
  go_wp2
  go_ret
  exact⟨rfl,rfl⟩
 rw [inb_lo oM]
 go_enter Tryz.func303,Tryz.ntmps303
 go_wp2
 go_ret
 exact⟨rfl,rfl⟩
theorem between_c (w:World) (x lo hi:Int):Calls Tryz.prog 176 #[.int .i64 x,.int .i64 lo,.int .i64 hi] w fun e w'=>e=.returned (.bool (inb x lo hi))∧w=w':=by
 by_cases h1:lo≤x
 ·
  by_cases h2:x≤hi
  ·
   rw [inb_of h1 h2]
   go_enter Tryz.func176,Tryz.ntmps176
   go_wp2
   go_ret
   exact⟨rfl,rfl⟩
  rw [inb_hi oM]
  go_enter Tryz.func176,Tryz.ntmps176
  go_wp2
  go_ret
  exact⟨rfl,rfl⟩
 rw [inb_lo oM]
 go_enter Tryz.func176,Tryz.ntmps176
 go_wp2
 go_ret
 exact⟨rfl,rfl⟩
theorem sTimeOk_c (w:World) (x:Int):Calls Tryz.prog 207 #[.int .i64 x] w fun e w'=>e=.returned (.bool (timeOk x))∧w=w':=by
 go_enter Tryz.func207,Tryz.ntmps207
 go_wp2_with (first|(go_at_call 303;refine (l1In_c _ _ _ _).mono ?_;rintro e w1 ⟨rfl,rfl⟩))
 go_ret
 exact⟨rfl,rfl⟩
theorem l11DueLess_c (w:World) (a b:DDue):Calls Tryz.prog 427 #[.agg #[.int .i64 a.Id,.int .i64 a.Due],.agg #[.int .i64 b.Id,.int .i64 b.Due]] w (RetV w (.bool (dueLess a b))):=by
 by_cases h1:a.Due<b.Due
 ·
  rw [dueLess_lt h1]
  go_enter Tryz.func427,Tryz.ntmps427
  go_wp2
  go_ret
  exact⟨rfl,by repeat (with_reducible (first|exact Ext.refl _|refine Ext.alloc ?_ _))⟩
 by_cases h2:a.Due=b.Due
 ·
  have h2':(a.Due == b.Due)=true:=by simpa using h2
  by_cases h3:a.Id<b.Id
  ·
   rw [dueLess_id h2 h3]
   clear h2
   go_enter Tryz.func427,Tryz.ntmps427
   go_wp2
   go_ret
   exact⟨rfl,by repeat (with_reducible (first|exact Ext.refl _|refine Ext.alloc ?_ _))⟩
  rw [dueLess_ge h2 h3]
  clear h2
  go_enter Tryz.func427,Tryz.ntmps427
  go_wp2
  go_ret
  exact⟨rfl,by repeat (with_reducible (first|exact Ext.refl _|refine Ext.alloc ?_ _))⟩
 have h2':(a.Due == b.Due)=false:=by simpa using h2
 rw [dueLess_no h1 h2]
 clear h2
 go_enter Tryz.func427,Tryz.ntmps427
 go_wp2
 go_ret
 exact⟨rfl,by repeat (with_reducible (first|exact Ext.refl _|refine Ext.alloc ?_ _))⟩
theorem dueLess_c (w:World) (a b:DDue):Calls Tryz.prog 426 #[.agg #[.int .i64 a.Id,.int .i64 a.Due],.agg #[.int .i64 b.Id,.int .i64 b.Due]] w (RetV w (.bool (dueLess a b))):=by
 by_cases h1:a.Due<b.Due
 ·
  rw [dueLess_lt h1]
  go_enter Tryz.func426,Tryz.ntmps426
  go_wp2
  go_ret
  exact⟨rfl,by repeat (with_reducible (first|exact Ext.refl _|refine Ext.alloc ?_ _))⟩
 by_cases h2:a.Due=b.Due
 ·
  have h2':(a.Due == b.Due)=true:=by simpa using h2
  by_cases h3:a.Id<b.Id
  ·
   rw [dueLess_id h2 h3]
   clear h2
   go_enter Tryz.func426,Tryz.ntmps426
   go_wp2
   go_ret
   exact⟨rfl,by repeat (with_reducible (first|exact Ext.refl _|refine Ext.alloc ?_ _))⟩
  rw [dueLess_ge h2 h3]
  clear h2
  go_enter Tryz.func426,Tryz.ntmps426
  go_wp2
  go_ret
  exact⟨rfl,by repeat (with_reducible (first|exact Ext.refl _|refine Ext.alloc ?_ _))⟩
 have h2':(a.Due == b.Due)=false:=by simpa using h2
 rw [dueLess_no h1 h2]
 clear h2
 go_enter Tryz.func426,Tryz.ntmps426
 go_wp2
 go_ret
 exact⟨rfl,by repeat (with_reducible (first|exact Ext.refl _|refine Ext.alloc ?_ _))⟩
theorem l7Id_c (w:World) (x:Int):Calls Tryz.prog 391 #[.int .i64 x] w fun e w'=>e=.returned (.bool (idOk x))∧w=w':=by
 go_enter Tryz.func391,Tryz.ntmps391
 go_wp2_with (first|(go_at_call 303;refine (l1In_c _ _ _ _).mono ?_;rintro e w1 ⟨rfl,rfl⟩))
 go_ret
 exact⟨rfl,rfl⟩
theorem timeOk_c (w:World) (x:Int):Calls Tryz.prog 177 #[.int .i64 x] w fun e w'=>e=.returned (.bool (timeOk x))∧w=w':=by
 go_enter Tryz.func177,Tryz.ntmps177
 go_wp2_with (first|(go_at_call 176;refine (between_c _ _ _ _).mono ?_;rintro e w1 ⟨rfl,rfl⟩))
 go_ret
 exact⟨rfl,rfl⟩
theorem idOk_c (w:World) (x:Int):Calls Tryz.prog 347 #[.int .i64 x] w fun e w'=>e=.returned (.bool (idOk x))∧w=w':=by
 go_enter Tryz.func347,Tryz.ntmps347
 go_wp2_with (first|(go_at_call 176;refine (between_c _ _ _ _).mono ?_;rintro e w1 ⟨rfl,rfl⟩))
 go_ret
 exact⟨rfl,rfl⟩
end Go.Proofs.YtkpmbocbbgocbaaGreat
namespace Go.G8
open Go.RowKit
def nestInt64S (l:List (List Int)):List NRow:=l.map (fun r=>([],r))
def nestWrite (l:List DWrite):List NRow:=l.map (fun d=>([d.At],d.Row))
def nestMsg (l:List DMsg):List NRow:=l.map (fun d=>([d.From,d.To],d.Row))
def rowOk (r:List Int):Bool:=decide (r.length≤48) && r.all (fun x=>inb x 0 1000000000)
def writeOk (n:Nat) (w:DWrite):Bool:=inb w.At 0 (n - 1) && rowOk w.Row
def diskOk (d:DDisk):Bool:=decide (1≤d.Kept.length∧d.Kept.length≤40∧d.Wait.length≤60) && (d.Kept.all rowOk && d.Wait.all (writeOk d.Kept.length))
def shelfOk (d:DDisk):Bool:=diskOk d && decide (d.Kept.length=8)
theorem all_step {α:Type} {p:α→Bool} {l:List α} {k:Nat} {d:α} (h:l[k]?=some d) (h1:(l.take k).all p=true) (h2:p d=true):(l.take (k+1)).all p=true:=by
 rw [List.take_add_one,h,List.all_append,h1];simp [h2]
theorem all_no {α:Type} {p:α→Bool} {l:List α} {k:Nat} {d:α} (h:l[k]?=some d) (h2:p d=false):l.all p=false:=by
 rw [Bool.eq_false_iff];intro hh
 rw [List.all_eq_true] at hh
 have:=hh d (List.mem_of_getElem? h)
 rw [h2] at this;cases this
theorem Ints.one {w:World} {v:Value} {l:List Int} (h:Ints 1 w v l):∃ a cap,v=.slice a l.length cap∧l.length≤cap∧cap≤maxLen ∧
  ∀ i,i<l.length→∃ x b off,l[i]?=some x∧a=some ⟨b,off,none⟩∧b<w.heap.size∧w.cell? ⟨b,off+i,none⟩=some (.int .i64 x):=by
 obtain⟨a,len,cap,rfl,hl,h1,h2,h3⟩:=h.open_
 obtain rfl:l.length=len:=by omega
 refine⟨a,cap,rfl,h1,h2,fun i hi=>?_⟩
 obtain⟨b,off,ha,hb,hc⟩:=h3 i hi
 obtain⟨x,hx,hcell⟩:=hc 0 oM
 simp only [Nat.mul_one,Nat.add_zero] at hx hcell
 exact⟨x,b,off,hx,ha,hb,hcell⟩
end Go.G8
namespace Go.Proofs.YtkpmbocbbgocbaaGreat
open Go.RowKit Go.G8
theorem sRowOk_c (w:World) (s0_0:Value) (l0_0:List Int) (h0_0:Ints 1 w s0_0 l0_0):Calls Tryz.prog 325 #[s0_0] w (RetV w (.bool (rowOk l0_0))):=by
 obtain⟨a,cap,rfl,hcap,hm,ha⟩:=h0_0.one
 have HA:=Lib.hid ha
 clear ha
 unfold maxLen at hm
 by_cases h48:l0_0.length≤48
 ·
  go_enter Tryz.func325,Tryz.ntmps325
  go_wp2
  go_loopw [3] (fun i wr=>∃ k:Nat,k≤l0_0.length∧i=.int .i64 k∧Ext w wr∧Hid ((l0_0.take k).all (fun x=>inb x 0 1000000000)=true)) (fun i _=>l0_0.length - (intOf i).toNat)
  case atStart=>exact⟨0,Nat.zero_le _,rfl,Ext.refl _,Lib.hid (by simp)⟩
  case round =>
   obtain⟨k,hk,rfl,he,hp⟩:=hrel
   by_cases hlt:k<l0_0.length
   ·
    obtain⟨x,b1,o1,hx,rfl,_,c⟩:=HA.out k hlt
    have d0:=he.cell c
    have HX:=Lib.hid hx
    clear hx c
    cases hb:inb x 0 1000000000
    ·
     go_wp2_with (first|(go_at_call 303;refine (l1In_c _ _ _ _).mono ?_;rintro e w1 ⟨rfl,rfl⟩))
     go_ret
     exact⟨by rw [rowOk,all_no HX.out (p:=fun x=>inb x 0 1000000000) hb];simp,he⟩
    go_wp2_with (first|(go_at_call 303;refine (l1In_c _ _ _ _).mono ?_;rintro e w1 ⟨rfl,rfl⟩))
    go_roundw
    case rel=>exact⟨k+1,by omega,by go_num,he,Lib.hid (all_step HX.out hp.out hb)⟩
    case measure=>simp [intOf];omega
   obtain rfl:k=l0_0.length:=by omega
   go_wp2
   go_ret
   have hp':=hp.out
   rw [List.take_length] at hp'
   exact⟨by rw [rowOk,hp'];simp [h48],he⟩
 go_enter Tryz.func325,Tryz.ntmps325
 go_wp2
 go_ret
 exact⟨by rw [rowOk];simp [h48],Ext.refl _⟩
theorem rowOk_c (w:World) (s0_0:Value) (l0_0:List Int) (h0_0:Ints 1 w s0_0 l0_0):Calls Tryz.prog 276 #[s0_0] w (RetV w (.bool (rowOk l0_0))):=by
 obtain⟨a,cap,rfl,hcap,hm,ha⟩:=h0_0.one
 have HA:=Lib.hid ha
 clear ha
 unfold maxLen at hm
 by_cases h48:l0_0.length≤48
 ·
  go_enter Tryz.func276,Tryz.ntmps276
  go_wp2
  go_loopw [10] (fun i wr=>∃ k:Nat,k≤l0_0.length∧i=.int .i64 k∧Ext w wr∧Hid ((l0_0.take k).all (fun x=>inb x 0 1000000000)=true)) (fun i _=>l0_0.length - (intOf i).toNat)
  case atStart=>exact⟨0,Nat.zero_le _,rfl,Ext.refl _,Lib.hid (by simp)⟩
  case round =>
   obtain⟨k,hk,rfl,he,hp⟩:=hrel
   by_cases hlt:k<l0_0.length
   ·
    obtain⟨x,b1,o1,hx,rfl,_,c⟩:=HA.out k hlt
    have d0:=he.cell c
    have HX:=Lib.hid hx
    clear hx c
    cases hb:inb x 0 1000000000
    ·
     go_wp2_with (first|(go_at_call 176;refine (between_c _ _ _ _).mono ?_;rintro e w1 ⟨rfl,rfl⟩))
     go_ret
     exact⟨by rw [rowOk,all_no HX.out (p:=fun x=>inb x 0 1000000000) hb];simp,he⟩
    go_wp2_with (first|(go_at_call 176;refine (between_c _ _ _ _).mono ?_;rintro e w1 ⟨rfl,rfl⟩))
    go_roundw
    case rel=>exact⟨k+1,by omega,by go_num,he,Lib.hid (all_step HX.out hp.out hb)⟩
    case measure=>simp [intOf];omega
   obtain rfl:k=l0_0.length:=by omega
   go_wp2
   go_ret
   have hp':=hp.out
   rw [List.take_length] at hp'
   exact⟨by rw [rowOk,hp'];simp [h48],he⟩
 go_enter Tryz.func276,Tryz.ntmps276
 go_wp2
 go_ret
 exact⟨by rw [rowOk];simp [h48],Ext.refl _⟩
theorem l3Has_c (w:World) (s0_0:Value) (l0_0:List (List Int)) (s0_1:Value) (l0_1:List DWrite) (c1_0:Int) (h0_0:Nest 0 w s0_0 (nestInt64S l0_0)) (h0_1:Nest 1 w s0_1 (nestWrite l0_1)) :
  Calls Tryz.prog 387 #[.agg #[s0_0,s0_1],.int .i64 c1_0] w (RetV w (.bool (inb c1_0 0 ((⟨l0_0,l0_1⟩:DDisk).Kept.length - 1)))):=by
 obtain⟨a0,cap0,rfl,hc0,hm0,-⟩:=h0_0.open_
 obtain⟨a1,n1,c1,rfl⟩:=h0_1.shape
 unfold maxLen at hm0
 have hl:(nestInt64S l0_0).length=l0_0.length:=by simp [nestInt64S]
 rw [hl] at hc0 ⊢
 clear hl
 go_enter Tryz.func387,Tryz.ntmps387
 go_wp2_with (first|(go_at_call 303;refine (l1In_c _ _ _ _  ).mono ?_;rintro e wa ⟨rfl,rfl⟩))
 go_ret
 refine⟨rfl,?_⟩
 exact xT
theorem sectorOk_c (w:World) (s0_0:Value) (l0_0:List (List Int)) (s0_1:Value) (l0_1:List DWrite) (c1_0:Int) (h0_0:Nest 0 w s0_0 (nestInt64S l0_0)) (h0_1:Nest 1 w s0_1 (nestWrite l0_1)) :
  Calls Tryz.prog 292 #[.agg #[s0_0,s0_1],.int .i64 c1_0] w (RetV w (.bool (inb c1_0 0 ((⟨l0_0,l0_1⟩:DDisk).Kept.length - 1)))):=by
 obtain⟨a0,cap0,rfl,hc0,hm0,-⟩:=h0_0.open_
 obtain⟨a1,n1,c1,rfl⟩:=h0_1.shape
 unfold maxLen at hm0
 have hl:(nestInt64S l0_0).length=l0_0.length:=by simp [nestInt64S]
 rw [hl] at hc0 ⊢
 clear hl
 go_enter Tryz.func292,Tryz.ntmps292
 go_wp2_with (first|(go_at_call 176;refine (between_c _ _ _ _  ).mono ?_;rintro e wa ⟨rfl,rfl⟩))
 go_ret
 refine⟨rfl,?_⟩
 exact xT
theorem nest_at {l:List (List Int)} {k:Nat} {r:NRow} (h:(nestInt64S l)[k]?=some r):l[k]?=some r.2:=by
 simp only [nestInt64S,List.getElem?_map,Option.map_eq_some_iff] at h
 obtain⟨x,hx,rfl⟩:=h
 exact hx
theorem nestW_at {l:List DWrite} {k:Nat} {r:NRow} (h:(nestWrite l)[k]?=some r):∃ d,l[k]?=some d∧r=([d.At],d.Row):=by
 simp only [nestWrite,List.getElem?_map,Option.map_eq_some_iff] at h
 obtain⟨x,hx,rfl⟩:=h
 exact⟨x,hx,rfl⟩
theorem Nest.rows {w:World} {v:Value} {l:List (List Int)} (h:Nest 0 w v (nestInt64S l)):∃ a cap,v=.slice a l.length cap∧l.length≤cap∧cap≤maxLen ∧
  ∀ i,i<l.length→∃ r b off sa sn sc,l[i]?=some r∧a=some ⟨b,off,none⟩∧b<w.heap.size∧w.cell? ⟨b,off+i,none⟩=some (.slice sa sn sc)∧Ints 1 w (.slice sa sn sc) r:=by
 obtain⟨a,cap,rfl,h1,h2,h3⟩:=h.open_
 have hl:(nestInt64S l).length=l.length:=by simp [nestInt64S]
 rw [hl] at h1 h3 ⊢
 refine⟨a,cap,rfl,h1,h2,fun i hi=>?_⟩
 obtain⟨r,b,off,s,hr,ha,hb,_,hc,hin⟩:=h3 i hi
 obtain⟨sa,sn,sc,rfl⟩:=hin.shape
 exact⟨r.2,b,off,sa,sn,sc,nest_at hr,ha,hb,by simpa using hc,hin⟩
theorem Nest.writes {w:World} {v:Value} {l:List DWrite} (h:Nest 1 w v (nestWrite l)):∃ a cap,v=.slice a l.length cap∧l.length≤cap∧cap≤maxLen ∧
  ∀ i,i<l.length→∃ d b off sa sn sc,l[i]?=some d∧a=some ⟨b,off,none⟩∧b<w.heap.size∧w.cell? ⟨b,off+i * 2,none⟩=some (.int .i64 d.At)∧w.cell? ⟨b,off+i * 2+1,none⟩=some (.slice sa sn sc)∧Ints 1 w (.slice sa sn sc) d.Row:=by
 obtain⟨a,cap,rfl,h1,h2,h3⟩:=h.open_
 have hl:(nestWrite l).length=l.length:=by simp [nestWrite]
 rw [hl] at h1 h3 ⊢
 refine⟨a,cap,rfl,h1,h2,fun i hi=>?_⟩
 obtain⟨r,b,off,s,hr,ha,hb,hci,hc,hin⟩:=h3 i hi
 obtain⟨d,hd,rfl⟩:=nestW_at hr
 obtain⟨sa,sn,sc,rfl⟩:=hin.shape
 have h0:=hci 0 d.At rfl
 simp only [Nat.add_zero,Nat.reduceAdd] at h0 hc
 exact⟨d,b,off,sa,sn,sc,hd,ha,hb,h0,hc,hin⟩
end Go.Proofs.YtkpmbocbbgocbaaGreat
namespace Go.G8
open Go.RowKit
theorem ncells_nil (n:Nat):ncells (nestInt64S (List.replicate n [])) (List.replicate n (.slice none 0 0))=List.replicate n (.slice none 0 0):=by
 induction n with
 | zero=>rfl
 | succ n ih =>
  simp only [List.replicate_succ,nestInt64S,ncells,List.map_cons,List.zip_cons_cons,List.flatMap_cons] at ih ⊢
  rw [ih]
  simp [ncell]
theorem OwnNs.nil (B:Nat) (e e1:TypeId) (n:Nat) (w:World):OwnNs B e e1 n w (.slice none 0 0) [] [] :=
 ⟨fun r h=>by simp at h,rfl,⟨0,by simp [ncells],.inl ⟨rfl,rfl⟩⟩,⟨fun i s r h=>by simp at h,fun i j s t k _ h=>by simp at h,fun i s k h=>by simp at h⟩⟩
theorem OwnNs.made (w:World) (e e1:TypeId) (n:Nat) (hn:n≤40):OwnNs w.heap.size e e1 0 (w.alloc (.cells (madeCells #[.slice none 0 0] n) e)) (.slice (some ⟨w.heap.size,0,none⟩) n n) (nestInt64S (List.replicate n [])) (List.replicate n (.slice none 0 0)):=by
 have hrep:∀ (i:Nat) (s:Value),(List.replicate n (Value.slice none 0 0))[i]?=some s→s=.slice none 0 0:=by
  intro i s h
  exact List.eq_of_mem_replicate (List.mem_of_getElem? h)
 have hft:∀ k,k ∈ feet [Value.slice none 0 0]→False:=by simp [feet,Value.ownBlock]
 refine⟨fun r h=>by simp [nestInt64S] at h;simp [h],by simp [nestInt64S],Own.of_blk (cap:=n) (Blk.new _ _ _) (Nat.le_refl _) (by simp [size_madeCells]) (by rw [ncells_nil];simp) (Nat.le_refl _) (by unfold maxLen;omega) ?_,⟨fun i s r h1 h2=>?_,fun i j s t k _ h1 h2 h3=>?_,fun i s k h1 h3=>?_⟩⟩
 ·
  rw [ncells_nil]
  intro j hj
  have hj':j<n:=by omega
  simp [madeCells,hj',Nat.mod_one]
 ·
  rw [hrep i s h1]
  have:r.2=[]:=by
   have:=List.mem_of_getElem? h2
   simp [nestInt64S] at this
   simp [this]
  rw [this]
  exact OwnI.nil _ _ _ _
 ·
  rw [hrep i s h1] at h3;exact (hft k h3).elim
 rw [hrep i s h1] at h3;exact (hft k h3).elim
end Go.G8
namespace Go.Proofs.YtkpmbocbbgocbaaGreat
open Go.RowKit Go.G8
def IsDisk (B:Nat) (w:World) (v:Value) (d:DDisk):Prop:=∃ t0 t1:Value,∃ ss0 ss1:List Value,v=.agg #[t0,t1]∧OwnNs B 62 2 0 w t0 (nestInt64S d.Kept) ss0∧OwnNs B 312 2 1 w t1 (nestWrite d.Wait) ss1∧(∀ k,k ∈ feet (t0 :: ss0)→k ∈ feet (t1 :: ss1)→False)
theorem toPair_c (w:World) (x0 x1:Int) :
  Calls Tryz.prog 334 #[.agg #[.int .i64 x0,.int .i64 x1]] w (RetV w (.agg #[.int .i64 x0,.int .i64 x1])):=by
 go_enter Tryz.func334,Tryz.ntmps334
 go_wp2
 refine bodyPost_ret (v:=.agg #[.int .i64 x0,.int .i64 x1]) (by simp [results,Tryz.results334,go_sem]) rfl ⟨rfl,?_⟩
 exact xT
theorem toPairS_c (w:World) (v:Value) (xs:List Int) (L:Nat) (hL:xs.length=L * 2) (h:Ints 2 w v xs) (hs:L≤1048576) :
  Calls Tryz.prog 230 #[v] w (Ret w fun v' w'=>OwnI w.heap.size 362 2 w' v' xs):=by
 obtain⟨a,len,ca,rfl,hl,hca,hm,ha⟩:=h.open_
 obtain rfl:L=len:=by omega
 have HA:=Lib.hid ha;have HL:=Lib.hid hl
 clear ha hl hL
 unfold maxLen at hm
 obtain⟨i0,hi,hz0,hz1,hz2⟩:=info_parts info_Pair
 go_enter Tryz.func230,Tryz.ntmps230
 have hmk:=fun W=>run_make (P:=Tryz.prog) W 82 362 i0 _ Tryz.underlying82 hi hz0 .i64 .i64 L L oM oM (by rw [hz2];omega) oM
 simp only [Int.toNat_natCast,hz1] at hmk
 go_wp2
 clear hmk
 go_loopw [4] (fun i wr=>∃ k:Nat,k≤L∧i=.int .i64 k∧Ext w wr∧∃ cur,Blk wr w.heap.size 362 cur∧cur.size=L * 2∧Pre cur (k * 2) (xs.map (.int .i64))) (fun i _=>L - (intOf i).toNat)
 case atStart=>exact⟨0,Nat.zero_le _,rfl,(Ext.refl _).alloc _,_,Blk.new _ _ _,by simp [size_madeCells],by simpa using Pre.zero _ _⟩
 case round =>
  obtain⟨k,hk,rfl,he,cur,hblk,hsz,hpre⟩:=hrel
  by_cases hlt:k<L
  ·
   obtain⟨b1,o1,rfl,_,c1⟩:=HA.out k hlt
   obtain⟨x0,hx0,c10⟩:=c1 0 oM
   obtain⟨x1,hx1,c11⟩:=c1 1 oM
   have d0:=he.cell c10;have d1:=he.cell c11
   simp only [Nat.add_zero] at d0
   clear c1 c10 c11
   have HX0:=Lib.hid hx0;have HX1:=Lib.hid hx1
   have HS:=Lib.hid hsz
   clear hx0 hx1 hsz
   go_wp2_with (first|(go_at_call 334;refine (toPair_c _ _ _).mono ?_;rintro e w1 ⟨rfl,hx⟩;have hb1:=hblk.ext hx;obtain⟨z0,g0⟩:∃ z,w1.cell? ⟨w.heap.size,k * 2,none⟩=some z:=⟨_,by rw [hb1.cell];exact Array.getElem?_eq_getElem (by have:=HS.out;omega)⟩;obtain⟨z1,g1⟩:∃ z,w1.cell? ⟨w.heap.size,k * 2+1,none⟩=some z:=⟨_,by rw [hb1.cell];exact Array.getElem?_eq_getElem (by have:=HS.out;omega)⟩;have f0:=hb1.frozen (k * 2);have f1:=hb1.frozen (k * 2+1)))
   go_roundw
   case rel=>exact⟨k+1,by omega,by go_num,(((he.trans hx).setCell (Nat.le_refl _) _).setCell (Nat.le_refl _) _),_,((hb1.set_ _ _).set_ _ _),by simp;exact HS.out,((hpre.set (by simpa using HX0.out) (by have:=HS.out;omega)).set (by simpa using HX1.out) (by have:=HS.out;simp;omega)).cast oM⟩
   case measure=>simp [intOf];omega
  obtain rfl:k=L:=by omega
  go_wp2
  go_ret
  exact⟨_,rfl,he,Own.of_blk hblk (Nat.le_refl _) hsz (by simpa using HL.out) (Nat.le_refl _) (by unfold maxLen;omega) hpre⟩
theorem szPairS_c (w:World) (v:Value) (xs:List Int) (L:Nat) (hL:xs.length=L * 2) (left:Int) (h:Ints 2 w v xs) (h0:0≤left) (h1:left≤1048576) :
  Calls Tryz.prog 203 #[v,.int .i64 left] w (Ret w fun v' _=>SzR left L v'):=by
 obtain⟨a,len,ca,rfl,hl,hca,hm,-⟩:=h.open_
 obtain rfl:L=len:=by omega
 clear h hl hL
 unfold maxLen at hm
 by_cases hlt:left<L
 ·
  have ht:decide (left - (L:Int)<0)=true:=by simp;omega
  go_enter Tryz.func203,Tryz.ntmps203
  go_wp2
  go_ret
  exact⟨_,rfl,Ext.refl _,.inl ⟨rfl,hlt⟩⟩
 have ht:decide (left - (L:Int)<0)=false:=by simp;omega
 go_enter Tryz.func203,Tryz.ntmps203
 go_wp2
 go_ret
 exact⟨_,rfl,Ext.refl _,.inr ⟨rfl,by omega⟩⟩
theorem toJob_c (w:World) (x0 x1 x2 x3 x4:Int) :
  Calls Tryz.prog 335 #[.agg #[.int .i64 x0,.int .i64 x1,.int .i64 x2,.int .i64 x3,.int .i64 x4]] w (RetV w (.agg #[.int .i64 x0,.int .i64 x1,.int .i64 x2,.int .i64 x3,.int .i64 x4])):=by
 go_enter Tryz.func335,Tryz.ntmps335
 go_wp2
 refine bodyPost_ret (v:=.agg #[.int .i64 x0,.int .i64 x1,.int .i64 x2,.int .i64 x3,.int .i64 x4]) (by simp [results,Tryz.results335,go_sem]) rfl ⟨rfl,?_⟩
 exact xT
theorem toJobS_c (w:World) (v:Value) (xs:List Int) (L:Nat) (hL:xs.length=L * 5) (h:Ints 5 w v xs) (hs:L≤1048576) :
  Calls Tryz.prog 231 #[v] w (Ret w fun v' w'=>OwnI w.heap.size 366 5 w' v' xs):=by
 obtain⟨a,len,ca,rfl,hl,hca,hm,ha⟩:=h.open_
 obtain rfl:L=len:=by omega
 have HA:=Lib.hid ha;have HL:=Lib.hid hl
 clear ha hl hL
 unfold maxLen at hm
 obtain⟨i0,hi,hz0,hz1,hz2⟩:=info_parts info_Job
 go_enter Tryz.func231,Tryz.ntmps231
 have hmk:=fun W=>run_make (P:=Tryz.prog) W 83 366 i0 _ Tryz.underlying83 hi hz0 .i64 .i64 L L oM oM (by rw [hz2];omega) oM
 simp only [Int.toNat_natCast,hz1] at hmk
 go_wp2
 clear hmk
 go_loopw [4] (fun i wr=>∃ k:Nat,k≤L∧i=.int .i64 k∧Ext w wr∧∃ cur,Blk wr w.heap.size 366 cur∧cur.size=L * 5∧Pre cur (k * 5) (xs.map (.int .i64))) (fun i _=>L - (intOf i).toNat)
 case atStart=>exact⟨0,Nat.zero_le _,rfl,(Ext.refl _).alloc _,_,Blk.new _ _ _,by simp [size_madeCells],by simpa using Pre.zero _ _⟩
 case round =>
  obtain⟨k,hk,rfl,he,cur,hblk,hsz,hpre⟩:=hrel
  by_cases hlt:k<L
  ·
   obtain⟨b1,o1,rfl,_,c1⟩:=HA.out k hlt
   obtain⟨x0,hx0,c10⟩:=c1 0 oM
   obtain⟨x1,hx1,c11⟩:=c1 1 oM
   obtain⟨x2,hx2,c12⟩:=c1 2 oM
   obtain⟨x3,hx3,c13⟩:=c1 3 oM
   obtain⟨x4,hx4,c14⟩:=c1 4 oM
   have d0:=he.cell c10;have d1:=he.cell c11;have d2:=he.cell c12;have d3:=he.cell c13;have d4:=he.cell c14
   simp only [Nat.add_zero] at d0
   clear c1 c10 c11 c12 c13 c14
   have HX0:=Lib.hid hx0;have HX1:=Lib.hid hx1;have HX2:=Lib.hid hx2;have HX3:=Lib.hid hx3;have HX4:=Lib.hid hx4
   have HS:=Lib.hid hsz
   clear hx0 hx1 hx2 hx3 hx4 hsz
   go_wp2_with (first|(go_at_call 335;refine (toJob_c _ _ _ _ _ _).mono ?_;rintro e w1 ⟨rfl,hx⟩;have hb1:=hblk.ext hx;obtain⟨z0,g0⟩:∃ z,w1.cell? ⟨w.heap.size,k * 5,none⟩=some z:=⟨_,by rw [hb1.cell];exact Array.getElem?_eq_getElem (by have:=HS.out;omega)⟩;obtain⟨z1,g1⟩:∃ z,w1.cell? ⟨w.heap.size,k * 5+1,none⟩=some z:=⟨_,by rw [hb1.cell];exact Array.getElem?_eq_getElem (by have:=HS.out;omega)⟩;obtain⟨z2,g2⟩:∃ z,w1.cell? ⟨w.heap.size,k * 5+2,none⟩=some z:=⟨_,by rw [hb1.cell];exact Array.getElem?_eq_getElem (by have:=HS.out;omega)⟩;obtain⟨z3,g3⟩:∃ z,w1.cell? ⟨w.heap.size,k * 5+3,none⟩=some z:=⟨_,by rw [hb1.cell];exact Array.getElem?_eq_getElem (by have:=HS.out;omega)⟩;obtain⟨z4,g4⟩:∃ z,w1.cell? ⟨w.heap.size,k * 5+4,none⟩=some z:=⟨_,by rw [hb1.cell];exact Array.getElem?_eq_getElem (by have:=HS.out;omega)⟩;have f0:=hb1.frozen (k * 5);have f1:=hb1.frozen (k * 5+1);have f2:=hb1.frozen (k * 5+2);have f3:=hb1.frozen (k * 5+3);have f4:=hb1.frozen (k * 5+4)))
   go_roundw
   case rel=>exact⟨k+1,by omega,by go_num,((((((he.trans hx).setCell (Nat.le_refl _) _).setCell (Nat.le_refl _) _).setCell (Nat.le_refl _) _).setCell (Nat.le_refl _) _).setCell (Nat.le_refl _) _),_,(((((hb1.set_ _ _).set_ _ _).set_ _ _).set_ _ _).set_ _ _),by simp;exact HS.out,(((((hpre.set (by simpa using HX0.out) (by have:=HS.out;omega)).set (by simpa using HX1.out) (by have:=HS.out;simp;omega)).set (by simpa using HX2.out) (by have:=HS.out;simp;omega)).set (by simpa using HX3.out) (by have:=HS.out;simp;omega)).set (by simpa using HX4.out) (by have:=HS.out;simp;omega)).cast oM⟩
   case measure=>simp [intOf];omega
  obtain rfl:k=L:=by omega
  go_wp2
  go_ret
  exact⟨_,rfl,he,Own.of_blk hblk (Nat.le_refl _) hsz (by simpa using HL.out) (Nat.le_refl _) (by unfold maxLen;omega) hpre⟩
theorem szJobS_c (w:World) (v:Value) (xs:List Int) (L:Nat) (hL:xs.length=L * 5) (left:Int) (h:Ints 5 w v xs) (h0:0≤left) (h1:left≤1048576) :
  Calls Tryz.prog 204 #[v,.int .i64 left] w (Ret w fun v' _=>SzR left L v'):=by
 obtain⟨a,len,ca,rfl,hl,hca,hm,-⟩:=h.open_
 obtain rfl:L=len:=by omega
 clear h hl hL
 unfold maxLen at hm
 by_cases hlt:left<L
 ·
  have ht:decide (left - (L:Int)<0)=true:=by simp;omega
  go_enter Tryz.func204,Tryz.ntmps204
  go_wp2
  go_ret
  exact⟨_,rfl,Ext.refl _,.inl ⟨rfl,hlt⟩⟩
 have ht:decide (left - (L:Int)<0)=false:=by simp;omega
 go_enter Tryz.func204,Tryz.ntmps204
 go_wp2
 go_ret
 exact⟨_,rfl,Ext.refl _,.inr ⟨rfl,by omega⟩⟩
theorem toLease_c (w:World) (x0 x1 x2:Int) :
  Calls Tryz.prog 232 #[.agg #[.int .i64 x0,.int .i64 x1,.int .i64 x2]] w (RetV w (.agg #[.int .i64 x0,.int .i64 x1,.int .i64 x2])):=by
 go_enter Tryz.func232,Tryz.ntmps232
 go_wp2
 refine bodyPost_ret (v:=.agg #[.int .i64 x0,.int .i64 x1,.int .i64 x2]) (by simp [results,Tryz.results232,go_sem]) rfl ⟨rfl,?_⟩
 exact xT
theorem toState_c (w:World) (c0:Int) (c1:Int) (s2:Value) (d2:List Int) (L2:Nat) (hL2:d2.length=L2 * 2) (s3:Value) (d3:List Int) (L3:Nat) (hL3:d3.length=L3 * 5) (c4:Int) (c5:Int) (c6:Int) (h2:Ints 2 w s2 d2) (hs2:L2≤1048576) (h3:Ints 5 w s3 d3) (hs3:L3≤1048576) :
  Calls Tryz.prog 125 #[.agg #[.int .i64 c0,.int .i64 c1,s2,s3,.int .i64 c4,.int .i64 c5,.int .i64 c6]] w (Ret w fun v w'=>∃ t2 t3:Value,v=.agg #[.int .i64 c0,.int .i64 c1,t2,t3,.int .i64 c4,.int .i64 c5,.int .i64 c6]∧OwnI w.heap.size 362 2 w' t2 d2∧OwnI w.heap.size 366 5 w' t3 d3):=by
 go_enter Tryz.func125,Tryz.ntmps125
 go_wp2_with (first|(go_at_call 230;refine (toPairS_c _ s2 d2 L2 hL2 (h2.ext xT) hs2).mono ?_;rintro e w1 ⟨t2,rfl,hx1,g2⟩;obtain⟨ta2,tn2,tc2,rfl⟩:=g2.shape;have hz1:=hx1.size;obtain⟨hc1,hf1⟩:=hx1.cells;(repeat (first|simp only [World.size_alloc] at hz1 hc1 hf1 g2|simp only [World.size_setCell] at hz1 hc1 hf1 g2));have hy1_0:w.heap.size<w1.heap.size:=oM;have hy1_1:w.heap.size+1<w1.heap.size:=oM;have hy1_2:w.heap.size+1+1<w1.heap.size:=oM)|(go_at_call 231;refine (toJobS_c _ s3 d3 L3 hL3 (h3.ext xT) hs3).mono ?_;rintro e w2 ⟨t3,rfl,hx2,g3⟩;obtain⟨ta3,tn3,tc3,rfl⟩:=g3.shape;have hz2:=hx2.size;obtain⟨hc2,hf2⟩:=hx2.cells;(repeat (first|simp only [World.size_alloc] at hz2 hc2 hf2 g3|simp only [World.size_setCell] at hz2 hc2 hf2 g3));have hy2_0:w.heap.size<w2.heap.size:=oM;have hy2_1:w.heap.size+1<w2.heap.size:=oM;have hy2_2:w.heap.size+1+1<w2.heap.size:=oM)|(go_at_call 232;refine (toLease_c _ c4 c5 c6).mono ?_;rintro e w3 ⟨rfl,hx3⟩;have hz3:=hx3.size;obtain⟨hc3,hf3⟩:=hx3.cells;(repeat (first|simp only [World.size_alloc] at hz3 hc3 hf3|simp only [World.size_setCell] at hz3 hc3 hf3));have hy3_0:w.heap.size<w3.heap.size:=oM;have hy3_1:w.heap.size+1<w3.heap.size:=oM;have hy3_2:w.heap.size+1+1<w3.heap.size:=oM))
 refine bodyPost_ret (v:=.agg #[.int .i64 c0,.int .i64 c1,.slice ta2 tn2 tc2,.slice ta3 tn3 tc3,.int .i64 c4,.int .i64 c5,.int .i64 c6]) ?_ rfl ?_
 ·
  simp [results,Tryz.results125,go_sem, *]
 refine⟨_,rfl,?_,_,_,rfl,(g2.keep ?_).mono ?_,(g3.keep ?_).mono ?_⟩
 all_goals clear hc1 hf1 hc2 hf2 hc3 hf3
 ·
  exact xT
 ·
  repeat' (first|(with_reducible exact Chg.refl _ _)|(with_reducible refine Chg.drewN ?_ _)|(with_reducible refine Chg.drew ?_)|(with_reducible refine Chg.alloc ?_ _)|(with_reducible refine Chg.setLow ?_ ?_ _)|(with_reducible refine Chg.ext ?_ (by assumption))|omega)
 ·
  omega
 ·
  repeat' (first|(with_reducible exact Chg.refl _ _)|(with_reducible refine Chg.drewN ?_ _)|(with_reducible refine Chg.drew ?_)|(with_reducible refine Chg.alloc ?_ _)|(with_reducible refine Chg.setLow ?_ ?_ _)|(with_reducible refine Chg.ext ?_ (by assumption))|omega)
 omega
theorem szState_c (w:World) (c0:Int) (c1:Int) (s2:Value) (d2:List Int) (L2:Nat) (hL2:d2.length=L2 * 2) (s3:Value) (d3:List Int) (L3:Nat) (hL3:d3.length=L3 * 5) (c4:Int) (c5:Int) (c6:Int) (left:Int) (h2:Ints 2 w s2 d2) (h3:Ints 5 w s3 d3) (h0:0≤left) (h1:left≤1048576) :
  Calls Tryz.prog 102 #[.agg #[.int .i64 c0,.int .i64 c1,s2,s3,.int .i64 c4,.int .i64 c5,.int .i64 c6],.int .i64 left] w (Ret w fun v' _=>SzR left (L2+L3) v'):=by
 go_enter Tryz.func102,Tryz.ntmps102
 go_wp2_with (first|(go_at_call 203;refine (szPairS_c _ s2 d2 L2 hL2 _ (h2.ext xT) oM oM).mono ?_;rintro e w1 ⟨v1,rfl,hx1,hv⟩;have hz1:=hx1.size;obtain⟨hc1,hf1⟩:=hx1.cells;(repeat (first|simp only [World.size_alloc] at hz1 hc1 hf1|simp only [World.size_setCell] at hz1 hc1 hf1));have hy1_0:w.heap.size<w1.heap.size:=oM;rcases hv with ⟨rfl,q1⟩|⟨rfl,q1⟩)|(go_at_call 204;refine (szJobS_c _ s3 d3 L3 hL3 _ (h3.ext xT) oM oM).mono ?_;rintro e w2 ⟨v2,rfl,hx2,hv⟩;have hz2:=hx2.size;obtain⟨hc2,hf2⟩:=hx2.cells;(repeat (first|simp only [World.size_alloc] at hz2 hc2 hf2|simp only [World.size_setCell] at hz2 hc2 hf2));have hy2_0:w.heap.size<w2.heap.size:=oM;rcases hv with ⟨rfl,q2⟩|⟨rfl,q2⟩))
 all_goals
  go_ret
  refine⟨_,rfl,?_,?_⟩
  ·
   exact xT
  first|exact .inl ⟨rfl,by omega⟩|(refine .inr ⟨congrArg (Value.int .i64) ?_,?_⟩ <;> omega)
end Go.Proofs.YtkpmbocbbgocbaaGreat
