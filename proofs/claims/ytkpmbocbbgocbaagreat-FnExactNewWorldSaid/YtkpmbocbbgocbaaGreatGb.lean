/- HelpA HelpC HelpD HelpE HelpF V1 S1 S4 HelpG. -/
import Derived.Test.YtkpmbocbbgocbaaGreatRows
import Derived.Test.YtkpmbocbbgocbaaGreatGa
set_option linter.unusedSimpArgs false
set_option linter.unusedVariables false
set_option maxHeartbeats 8000000
set_option maxRecDepth 100000
namespace Go.Proofs.YtkpmbocbbgocbaaGreat
open Go.RowKit Go.G8
theorem info_Int64:(Tryz.prog.info? 2).map (fun i=>(i.zero,i.size,i.bytes))=some (some (.int .i64 0),1,8):=by kernel_rfl
theorem eqInt64S_c (w:World) (va vb:Value) (xs:List Int) (ha:Ints 1 w va xs) (hb:Ints 1 w vb xs) :
  Calls Tryz.prog 17 #[va,vb] w (RetV w (.bool true)):=by
 obtain⟨a,len,ca,rfl,hl,hca,hm,ha'⟩:=ha.open_
 obtain⟨b,len',cb,rfl,hl',_,_,hb'⟩:=hb.open_
 obtain rfl:len=len':=by omega
 have HA:=Lib.hid ha';have HB:=Lib.hid hb'
 clear ha' hb' hl hl' ha hb
 unfold maxLen at hm
 go_enter Tryz.func17,Tryz.ntmps17
 go_wp2
 go_loopw [5] (fun i wr=>∃ k:Nat,k≤len∧i=.int .i64 k∧Ext w wr) (fun i _=>len - (intOf i).toNat)
 case atStart=>exact⟨0,Nat.zero_le _,rfl,Ext.refl _⟩
 case round =>
  obtain⟨k,hk,rfl,he⟩:=hrel
  by_cases hlt:k<len
  ·
   obtain⟨b1,o1,rfl,_,c1⟩:=HA.out k hlt
   obtain⟨b2,o2,rfl,_,c2⟩:=HB.out k hlt
   obtain⟨x0,hx0,c10⟩:=c1 0 oM
   obtain⟨y0,hy0,c20⟩:=c2 0 oM
   obtain rfl:x0=y0:=by rw [hx0] at hy0;exact Option.some.inj hy0
   have d0:=he.cell c10;have e0:=he.cell c20
   simp only [Nat.add_zero,Nat.mul_one] at d0 e0
   clear c1 c2 c10 c20 hx0 hy0
   go_wp2
   go_quiet (fail)
   go_wp2
   go_roundw
   case rel=>exact⟨k+1,by omega,by go_num,he.drewN _⟩
   case measure=>simp [intOf];omega
  go_wp2
  go_ret
  exact⟨rfl,he⟩
theorem markInt64S_c (w:World) (B:Nat) (v:Value) (xs:List Int) (L:Nat) (hL:xs.length=L) (q:Int) (h:OwnI B 2 1 w v xs) (h0:0≤q) (h1:q+(L:Nat)≤4611686018427387904) :
  Calls Tryz.prog 19 #[v,.int .i64 q] w (RetM w (feet [v]) (.int .i64 (q+(L:Nat))) fun w'=>OwnI B 2 1 w' v (run q (L))):=by
 obtain⟨a,len,ca,rfl,hl,hca,hm,hop⟩:=Own.open_ h
 rw [List.length_map] at hl
 obtain rfl:L=len:=by omega
 unfold maxLen at hm
 rcases hop with h00|⟨g,cur0,rfl,hB,hb0,hs0,-⟩
 ·
  subst h00
  have hfin:OwnI B 2 1 w (.slice a 0 ca) (run q (0)):=by
   refine Own.empty h ?_ _ ?_
   ·
    exact List.eq_nil_of_length_eq_zero (by simpa using hL)
   simp [run]
  have HF:=Lib.hid hfin
  clear hfin h hL hl
  have hq:q+((0:Nat):Int)=q:=by simp
  rw [hq]
  clear hq
  go_enter Tryz.func19,Tryz.ntmps19
  go_wp2
  go_loopw [1,5] (fun kk i wr=>kk=.int .i64 q∧i=.int .i64 0∧wr=w) (fun _ _ _=>0)
  case atStart=>exact⟨rfl,rfl,rfl⟩
  case round =>
   obtain⟨rfl,rfl,rfl⟩:=hrel
   go_wp2
   go_ret
   exact⟨rfl,Upd.refl _ _,HF.out⟩
 have HS:=Lib.hid hs0
 have HC:=Lib.hid (show L≤ca by have:=Nat.mul_le_mul_right 1 hca;omega)
 clear hs0 hL hl h
 go_enter Tryz.func19,Tryz.ntmps19
 go_wp2
 go_loopw [1,5] (fun kk i wr=>∃ k:Nat,k≤L∧i=.int .i64 k∧(∃ q':Int,q'=q+(k:Nat)∧kk=.int .i64 q')∧Upd w wr [g]∧∃ cur,Blk wr g 2 cur∧cur.size=ca∧Pre cur (k) ((run q (L)).map (.int .i64))) (fun _ i _=>L - (intOf i).toNat)
 case atStart=>exact⟨0,Nat.zero_le _,rfl,⟨q,by simp,rfl⟩,Upd.refl _ _,cur0,hb0,by simpa using HS.out,by simpa using Pre.zero _ _⟩
 case round =>
  obtain⟨k,hk,rfl,⟨q',hq',rfl⟩,he,cur,hblk,hsz,hpre⟩:=hrel
  clear HS
  have HS:=Lib.hid hsz
  have HQ:=Lib.hid hq'
  by_cases hlt:k<L
  ·
   have hq1:0≤q'∧q'+1≤4611686018427387904:=by have:=mul_lt_of hlt 1;omega
   obtain⟨hq1,hq2⟩:=hq1
   clear hsz hq'
   obtain⟨z0,g0⟩:∃ z,wr.cell? ⟨g,k,none⟩=some z:=⟨_,by rw [hblk.cell];exact Array.getElem?_eq_getElem (by have:=HS.out;have:=HC.out;omega)⟩
   have f0:=hblk.frozen (k)
   go_wp2
   go_roundw
   case rel=>exact⟨k+1,by omega,by go_num,⟨_,by have:=HQ.out;omega,rfl⟩,(he.setCell (by simp) _),_,(hblk.set_ _ _),by simp;exact HS.out,((hpre.set (run_cell' (by have:=mul_lt_of hlt 1;omega) (by have:=HQ.out;omega)) (by have:=HS.out;have:=mul_lt_of hlt 1;have:=HC.out;omega))).cast oM⟩
   case measure=>simp [intOf];omega
  obtain rfl:k=L:=by omega
  clear hsz hq'
  go_wp2
  go_ret
  refine⟨congrArg (fun z=>Ending.returned (.int .i64 z)) HQ.out,he,Own.of_blk hblk hB (by simpa using HS.out) (by simp [length_run]) hca (by unfold maxLen;omega) (hpre.cast oM)⟩
theorem heldInt64S_c (w:World) (v:Value) (L:Nat) (q:Int) (h:Ints 1 w v (run q (L))) (h0:0≤q) (h1:q+(L:Nat)≤4611686018427387904) :
  Calls Tryz.prog 20 #[v,.int .i64 q] w (RetV w (.int .i64 (q+(L:Nat)))):=by
 obtain⟨a,len,ca,rfl,hl,hca,hm,ha⟩:=h.open_
 rw [length_run] at hl
 obtain rfl:L=len:=by omega
 have HA:=Lib.hid ha
 clear ha hl h
 unfold maxLen at hm
 go_enter Tryz.func20,Tryz.ntmps20
 go_wp2
 go_loopw [1,5] (fun kk i wr=>∃ k:Nat,k≤L∧i=.int .i64 k∧(∃ q':Int,q'=q+(k:Nat)∧kk=.int .i64 q')∧Ext w wr) (fun _ i _=>L - (intOf i).toNat)
 case atStart=>exact⟨0,Nat.zero_le _,rfl,⟨q,by simp,rfl⟩,Ext.refl _⟩
 case round =>
  obtain⟨k,hk,rfl,⟨q',hq',rfl⟩,he⟩:=hrel
  by_cases hlt:k<L
  ·
   obtain⟨b1,o1,rfl,_,c1⟩:=HA.out k hlt
   obtain⟨x0,hx0,c10⟩:=c1 0 oM
   obtain rfl:q'=x0:=by rw [run_get _ _ _ (by have:=mul_lt_of hlt 1;omega)] at hx0;have:=Option.some.inj hx0;omega
   have d0:=he.cell c10
   have hq1:0≤q'∧q'+1≤4611686018427387904:=by have:=mul_lt_of hlt 1;omega
   obtain⟨hq1,hq2⟩:=hq1
   have HQ:=Lib.hid hq'
   simp only [Nat.add_zero,Nat.mul_one] at d0
   clear c1 c10 hx0 hq'
   go_wp2
   repeat (go_quiet (fail);go_wp2)
   go_roundw
   case rel=>exact⟨k+1,by omega,by go_num,⟨_,by have:=HQ.out;omega,rfl⟩,xT⟩
   case measure=>simp [intOf];omega
  obtain rfl:k=L:=by omega
  have HQ:=Lib.hid hq'
  clear hq'
  go_wp2
  go_ret
  exact⟨congrArg (fun z=>Ending.returned (.int .i64 z)) HQ.out,he⟩
theorem eqDue_c (w:World) (x0 x1:Int) :
  Calls Tryz.prog 398 #[.agg #[.int .i64 x0,.int .i64 x1],.agg #[.int .i64 x0,.int .i64 x1]] w (RetV w (.bool true)):=by
 go_enter Tryz.func398,Tryz.ntmps398
 go_wp2
 repeat (go_quiet (fail);go_wp2)
 go_ret
 exact⟨rfl,xT⟩
theorem eqDueS_c (w:World) (va vb:Value) (xs:List Int) (ha:Ints 2 w va xs) (hb:Ints 2 w vb xs) :
  Calls Tryz.prog 344 #[va,vb] w (RetV w (.bool true)):=by
 obtain⟨a,len,ca,rfl,hl,hca,hm,ha'⟩:=ha.open_
 obtain⟨b,len',cb,rfl,hl',_,_,hb'⟩:=hb.open_
 obtain rfl:len=len':=by omega
 have HA:=Lib.hid ha';have HB:=Lib.hid hb'
 clear ha' hb' hl hl' ha hb
 unfold maxLen at hm
 go_enter Tryz.func344,Tryz.ntmps344
 go_wp2
 go_loopw [5] (fun i wr=>∃ k:Nat,k≤len∧i=.int .i64 k∧Ext w wr) (fun i _=>len - (intOf i).toNat)
 case atStart=>exact⟨0,Nat.zero_le _,rfl,Ext.refl _⟩
 case round =>
  obtain⟨k,hk,rfl,he⟩:=hrel
  by_cases hlt:k<len
  ·
   obtain⟨b1,o1,rfl,_,c1⟩:=HA.out k hlt
   obtain⟨b2,o2,rfl,_,c2⟩:=HB.out k hlt
   obtain⟨x0,hx0,c10⟩:=c1 0 oM
   obtain⟨x1,hx1,c11⟩:=c1 1 oM
   obtain⟨y0,hy0,c20⟩:=c2 0 oM
   obtain⟨y1,hy1,c21⟩:=c2 1 oM
   obtain rfl:x0=y0:=by rw [hx0] at hy0;exact Option.some.inj hy0
   obtain rfl:x1=y1:=by rw [hx1] at hy1;exact Option.some.inj hy1
   have d0:=he.cell c10;have e0:=he.cell c20
   have d1:=he.cell c11;have e1:=he.cell c21
   simp only [Nat.add_zero] at d0 e0
   clear c1 c2 c10 c20 hx0 hy0 c11 c21 hx1 hy1
   go_wp2
   go_region_held3 (fun w'=>Ext wr w'∧w'.cell? ⟨b1,o1+k * 2,none⟩=some (.int .i64 x0)∧w'.cell? ⟨b1,o1+k * 2+1,none⟩=some (.int .i64 x1)∧w'.cell? ⟨b2,o2+k * 2,none⟩=some (.int .i64 x0)∧w'.cell? ⟨b2,o2+k * 2+1,none⟩=some (.int .i64 x1)) (first|exact⟨Ext.drew (Ext.refl _),d0,d1,e0,e1⟩|exact held_of (S:=fun w'=>Ext wr w'∧w'.cell? ⟨b1,o1+k * 2,none⟩=some (.int .i64 x0)∧w'.cell? ⟨b1,o1+k * 2+1,none⟩=some (.int .i64 x1)∧w'.cell? ⟨b2,o2+k * 2,none⟩=some (.int .i64 x0)∧w'.cell? ⟨b2,o2+k * 2+1,none⟩=some (.int .i64 x1)) (by assumption) hx (fun a b h x=>⟨h.1.trans x,(h.1.trans x).cell d0,(h.1.trans x).cell d1,(h.1.trans x).cell e0,(h.1.trans x).cell e1⟩)) ((go_at_call 398;refine (eqDue_c _ _ _).mono ?_;rintro e w' ⟨rfl,hx⟩))
   go_wp2
   go_roundw
   case rel=>exact⟨k+1,by omega,by go_num,he.trans (And.left ‹_›)⟩
   case measure=>simp [intOf];omega
  go_wp2
  go_ret
  exact⟨rfl,he⟩
theorem markDueS_c (w:World) (B:Nat) (v:Value) (xs:List Int) (L:Nat) (hL:xs.length=L * 2) (q:Int) (h:OwnI B 286 2 w v xs) (h0:0≤q) (h1:q+(L * 2:Nat)≤4611686018427387904) :
  Calls Tryz.prog 345 #[v,.int .i64 q] w (RetM w (feet [v]) (.int .i64 (q+(L * 2:Nat))) fun w'=>OwnI B 286 2 w' v (run q (L * 2))):=by
 obtain⟨a,len,ca,rfl,hl,hca,hm,hop⟩:=Own.open_ h
 rw [List.length_map] at hl
 obtain rfl:L=len:=by omega
 unfold maxLen at hm
 rcases hop with h00|⟨g,cur0,rfl,hB,hb0,hs0,-⟩
 ·
  subst h00
  have hfin:OwnI B 286 2 w (.slice a 0 ca) (run q (0 * 2)):=by
   refine Own.empty h ?_ _ ?_
   ·
    exact List.eq_nil_of_length_eq_zero (by simpa using hL)
   simp [run]
  have HF:=Lib.hid hfin
  clear hfin h hL hl
  have hq:q+((0 * 2:Nat):Int)=q:=by simp
  rw [hq]
  clear hq
  go_enter Tryz.func345,Tryz.ntmps345
  go_wp2
  go_loopw [1,5] (fun kk i wr=>kk=.int .i64 q∧i=.int .i64 0∧wr=w) (fun _ _ _=>0)
  case atStart=>exact⟨rfl,rfl,rfl⟩
  case round =>
   obtain⟨rfl,rfl,rfl⟩:=hrel
   go_wp2
   go_ret
   exact⟨rfl,Upd.refl _ _,HF.out⟩
 have HS:=Lib.hid hs0
 have HC:=Lib.hid (show L * 2≤ca * 2 by have:=Nat.mul_le_mul_right 2 hca;omega)
 clear hs0 hL hl h
 go_enter Tryz.func345,Tryz.ntmps345
 go_wp2
 go_loopw [1,5] (fun kk i wr=>∃ k:Nat,k≤L∧i=.int .i64 k∧(∃ q':Int,q'=q+(k * 2:Nat)∧kk=.int .i64 q')∧Upd w wr [g]∧∃ cur,Blk wr g 286 cur∧cur.size=ca * 2∧Pre cur (k * 2) ((run q (L * 2)).map (.int .i64))) (fun _ i _=>L - (intOf i).toNat)
 case atStart=>exact⟨0,Nat.zero_le _,rfl,⟨q,by simp,rfl⟩,Upd.refl _ _,cur0,hb0,HS.out,by simpa using Pre.zero _ _⟩
 case round =>
  obtain⟨k,hk,rfl,⟨q',hq',rfl⟩,he,cur,hblk,hsz,hpre⟩:=hrel
  clear HS
  have HS:=Lib.hid hsz
  have HQ:=Lib.hid hq'
  by_cases hlt:k<L
  ·
   have hq1:0≤q'∧q'+2≤4611686018427387904:=by have:=mul_lt_of hlt 2;omega
   obtain⟨hq1,hq2⟩:=hq1
   clear hsz hq'
   obtain⟨z0,g0⟩:∃ z,wr.cell? ⟨g,k * 2,none⟩=some z:=⟨_,by rw [hblk.cell];exact Array.getElem?_eq_getElem (by have:=HS.out;have:=HC.out;have:=mul_lt_of hlt 2;omega)⟩
   have f0:=hblk.frozen (k * 2)
   obtain⟨z1,g1⟩:∃ z,wr.cell? ⟨g,k * 2+1,none⟩=some z:=⟨_,by rw [hblk.cell];exact Array.getElem?_eq_getElem (by have:=HS.out;have:=HC.out;have:=mul_lt_of hlt 2;omega)⟩
   have f1:=hblk.frozen (k * 2+1)
   go_wp2
   go_roundw
   case rel=>exact⟨k+1,by omega,by go_num,⟨_,by have:=HQ.out;omega,rfl⟩,((he.setCell (by simp) _).setCell (by simp) _),_,((hblk.set_ _ _).set_ _ _),by simp;exact HS.out,(((hpre.set (run_cell' (by have:=mul_lt_of hlt 2;omega) (by have:=HQ.out;omega)) (by have:=HS.out;have:=mul_lt_of hlt 2;have:=HC.out;omega)).set (run_cell' (by have:=mul_lt_of hlt 2;omega) (by have:=HQ.out;omega)) (by have:=HS.out;have:=mul_lt_of hlt 2;have:=HC.out;simp;omega))).cast oM⟩
   case measure=>simp [intOf];omega
  obtain rfl:k=L:=by omega
  clear hsz hq'
  go_wp2
  go_ret
  refine⟨congrArg (fun z=>Ending.returned (.int .i64 z)) HQ.out,he,Own.of_blk hblk hB HS.out (by simp [length_run]) hca (by unfold maxLen;omega) hpre⟩
theorem heldDueS_c (w:World) (v:Value) (L:Nat) (q:Int) (h:Ints 2 w v (run q (L * 2))) (h0:0≤q) (h1:q+(L * 2:Nat)≤4611686018427387904) :
  Calls Tryz.prog 374 #[v,.int .i64 q] w (RetV w (.int .i64 (q+(L * 2:Nat)))):=by
 obtain⟨a,len,ca,rfl,hl,hca,hm,ha⟩:=h.open_
 rw [length_run] at hl
 obtain rfl:L=len:=by omega
 have HA:=Lib.hid ha
 clear ha hl h
 unfold maxLen at hm
 go_enter Tryz.func374,Tryz.ntmps374
 go_wp2
 go_loopw [1,5] (fun kk i wr=>∃ k:Nat,k≤L∧i=.int .i64 k∧(∃ q':Int,q'=q+(k * 2:Nat)∧kk=.int .i64 q')∧Ext w wr) (fun _ i _=>L - (intOf i).toNat)
 case atStart=>exact⟨0,Nat.zero_le _,rfl,⟨q,by simp,rfl⟩,Ext.refl _⟩
 case round =>
  obtain⟨k,hk,rfl,⟨q',hq',rfl⟩,he⟩:=hrel
  by_cases hlt:k<L
  ·
   obtain⟨b1,o1,rfl,_,c1⟩:=HA.out k hlt
   obtain⟨x0,hx0,c10⟩:=c1 0 oM
   obtain rfl:q'=x0:=by rw [run_get _ _ _ (by have:=mul_lt_of hlt 2;omega)] at hx0;have:=Option.some.inj hx0;omega
   have d0:=he.cell c10
   obtain⟨x1,hx1,c11⟩:=c1 1 oM
   obtain rfl:x1=q'+1:=by rw [run_get _ _ _ (by have:=mul_lt_of hlt 2;omega)] at hx1;have:=Option.some.inj hx1;omega
   have d1:=he.cell c11
   have hq1:0≤q'∧q'+2≤4611686018427387904:=by have:=mul_lt_of hlt 2;omega
   obtain⟨hq1,hq2⟩:=hq1
   have HQ:=Lib.hid hq'
   simp only [Nat.add_zero] at d0
   clear c1 c10 hx0 c11 hx1 hq'
   go_wp2
   repeat (go_quiet (fail);go_wp2)
   go_roundw
   case rel=>exact⟨k+1,by omega,by go_num,⟨_,by have:=HQ.out;omega,rfl⟩,xT⟩
   case measure=>simp [intOf];omega
  obtain rfl:k=L:=by omega
  have HQ:=Lib.hid hq'
  clear hq'
  go_wp2
  go_ret
  exact⟨congrArg (fun z=>Ending.returned (.int .i64 z)) HQ.out,he⟩
theorem toOp_c (w:World) (x0 x1 x2 x3 x4:Int) :
  Calls Tryz.prog 127 #[.agg #[.int .i64 x0,.int .i64 x1,.int .i64 x2,.int .i64 x3,.int .i64 x4]] w (RetV w (.agg #[.int .i64 x0,.int .i64 x1,.int .i64 x2,.int .i64 x3,.int .i64 x4])):=by
 go_enter Tryz.func127,Tryz.ntmps127
 go_wp2
 refine bodyPost_ret (v:=.agg #[.int .i64 x0,.int .i64 x1,.int .i64 x2,.int .i64 x3,.int .i64 x4]) (by simp [results,Tryz.results127,go_sem]) rfl ⟨rfl,?_⟩
 exact xT
theorem eqOp_c (w:World) (x0 x1 x2 x3 x4:Int) :
  Calls Tryz.prog 148 #[.agg #[.int .i64 x0,.int .i64 x1,.int .i64 x2,.int .i64 x3,.int .i64 x4],.agg #[.int .i64 x0,.int .i64 x1,.int .i64 x2,.int .i64 x3,.int .i64 x4]] w (RetV w (.bool true)):=by
 go_enter Tryz.func148,Tryz.ntmps148
 go_wp2
 repeat (go_quiet (fail);go_wp2)
 go_ret
 exact⟨rfl,xT⟩
theorem eqAck_c (w:World) (x0 x1 x2 x3:Int) :
  Calls Tryz.prog 248 #[.agg #[.int .i64 x0,.int .i64 x1,.int .i64 x2,.int .i64 x3],.agg #[.int .i64 x0,.int .i64 x1,.int .i64 x2,.int .i64 x3]] w (RetV w (.bool true)):=by
 go_enter Tryz.func248,Tryz.ntmps248
 go_wp2
 repeat (go_quiet (fail);go_wp2)
 go_ret
 exact⟨rfl,xT⟩
theorem info_Int64S:(Tryz.prog.info? 62).map (fun i=>(i.zero,i.size,i.bytes))=some (some (.slice none 0 0),1,24):=by kernel_rfl
theorem info_Write:(Tryz.prog.info? 312).map (fun i=>(i.zero,i.size,i.bytes))=some (some (.agg #[.int .i64 0,.slice none 0 0]),2,32):=by kernel_rfl
theorem eqWrite_c (w:World) (c0:Int) (s1:Value) (t1:Value) (d1:List Int) (h1:Ints 1 w s1 d1) (k1:Ints 1 w t1 d1) :
  Calls Tryz.prog 341 #[.agg #[.int .i64 c0,s1],.agg #[.int .i64 c0,t1]] w (RetV w (.bool true)):=by
 go_enter Tryz.func341,Tryz.ntmps341
 go_wp2_with (first|(go_at_call 17;refine (eqInt64S_c _ s1 t1 d1 (h1.ext xT) (k1.ext xT)).mono ?_;rintro e w1 ⟨rfl,hx1⟩;have hz1:=hx1.size;obtain⟨hc1,hf1⟩:=hx1.cells;(repeat (first|simp only [World.size_alloc] at hz1 hc1 hf1|simp only [World.size_setCell] at hz1 hc1 hf1));have hy1_0:w.heap.size<w1.heap.size:=oM;have hy1_1:w.heap.size+1<w1.heap.size:=oM))
 go_ret
 refine⟨rfl,?_⟩
 exact xT
theorem eqMsg_c (w:World) (c0:Int) (c1:Int) (s2:Value) (t2:Value) (d2:List Int) (h2:Ints 1 w s2 d2) (k2:Ints 1 w t2 d2) :
  Calls Tryz.prog 256 #[.agg #[.int .i64 c0,.int .i64 c1,s2],.agg #[.int .i64 c0,.int .i64 c1,t2]] w (RetV w (.bool true)):=by
 go_enter Tryz.func256,Tryz.ntmps256
 go_wp2_with (first|(go_at_call 17;refine (eqInt64S_c _ s2 t2 d2 (h2.ext xT) (k2.ext xT)).mono ?_;rintro e w1 ⟨rfl,hx1⟩;have hz1:=hx1.size;obtain⟨hc1,hf1⟩:=hx1.cells;(repeat (first|simp only [World.size_alloc] at hz1 hc1 hf1|simp only [World.size_setCell] at hz1 hc1 hf1));have hy1_0:w.heap.size<w1.heap.size:=oM;have hy1_1:w.heap.size+1<w1.heap.size:=oM))
 go_ret
 refine⟨rfl,?_⟩
 exact xT
theorem eqInt64SS_c (w:World) (va vb:Value) (rows:List NRow) (ha:Nest 0 w va rows) (hb:Nest 0 w vb rows) :
  Calls Tryz.prog 249 #[va,vb] w (RetV w (.bool true)):=by
 have hwid:=ha.1
 obtain⟨a,ca,rfl,hca,hm,ha'⟩:=ha.open_
 obtain⟨b,cb,rfl,_,_,hb'⟩:=hb.open_
 have HA:=Lib.hid ha';have HB:=Lib.hid hb';have HW:=Lib.hid hwid
 clear ha' hb' ha hb hwid
 unfold maxLen at hm
 go_enter Tryz.func249,Tryz.ntmps249
 go_wp2
 go_loopw [5] (fun i wr=>∃ k:Nat,k≤rows.length∧i=.int .i64 k∧Ext w wr) (fun i _=>rows.length - (intOf i).toNat)
 case atStart=>exact⟨0,Nat.zero_le _,rfl,Ext.refl _⟩
 case round =>
  obtain⟨k,hk,rfl,he⟩:=hrel
  by_cases hlt:k<rows.length
  ·
   obtain⟨r,b1,o1,s,hr,rfl,_,hci,hcs,hin0⟩:=HA.out k hlt
   obtain⟨r2,b2,o2,t,hr2,rfl,_,hci2,hcs2,hin2⟩:=HB.out k hlt
   obtain rfl:r=r2:=by rw [hr] at hr2;exact Option.some.inj hr2
   have hrw:=HW.out r (List.mem_of_getElem? hr)
   have d0:=he.cell hcs
   simp only [Nat.add_zero,Nat.zero_add,Nat.mul_one] at d0
   have d02:=he.cell hcs2
   simp only [Nat.add_zero,Nat.zero_add,Nat.mul_one] at d02
   have g1:=hin0.ext he;have g2:=hin2.ext he
   obtain⟨sa,sn,sc,rfl⟩:=g1.shape;obtain⟨ta,tn,tc,rfl⟩:=g2.shape
   clear hci hcs hci2 hcs2 hrw hr hr2 hin0 hin2 
   go_wp2
   go_region_held3 (fun w'=>Ext wr w'∧w'.cell? ⟨b1,o1+k,none⟩=some (.slice sa sn sc)∧w'.cell? ⟨b2,o2+k,none⟩=some (.slice ta tn tc)) (first|exact⟨Ext.drew (Ext.refl _),d0,d02⟩|exact held_of (S:=fun w'=>Ext wr w'∧w'.cell? ⟨b1,o1+k,none⟩=some (.slice sa sn sc)∧w'.cell? ⟨b2,o2+k,none⟩=some (.slice ta tn tc)) (by assumption) hx (fun a b h x=>⟨h.1.trans x,(h.1.trans x).cell d0,(h.1.trans x).cell d02⟩)) ((go_at_call 17;refine (eqInt64S_c _ _ _ r.2 (g1.ext (And.left ‹_›)) (g2.ext (And.left ‹_›))).mono ?_;rintro e w' ⟨rfl,hx⟩))
   go_wp2
   go_roundw
   case rel=>exact⟨k+1,by omega,by go_num,he.trans (And.left ‹_›)⟩
   case measure=>simp [intOf];omega
  go_wp2
  go_ret
  exact⟨rfl,he⟩
theorem heldInt64SS_c (w:World) (v:Value) (rows:List NRow) (q:Int) (h:Nest 0 w v (marks 0 q rows)) (h0:0≤q) (h1:q+(tot 0 rows:Nat)≤4611686018427387904) :
  Calls Tryz.prog 296 #[v,.int .i64 q] w (RetV w (.int .i64 (q+(tot 0 rows:Nat)))):=by
 obtain⟨a,ca,rfl,hca,hm,ha⟩:=h.open_
 rw [length_marks] at hca ha ⊢
 have HA:=Lib.hid ha
 clear ha h
 unfold maxLen at hm
 go_enter Tryz.func296,Tryz.ntmps296
 go_wp2
 go_loopw [1,5] (fun kk i wr=>∃ k:Nat,k≤rows.length∧i=.int .i64 k∧(∃ q':Int,q'=q+(tot 0 (rows.take k):Nat)∧kk=.int .i64 q')∧Ext w wr) (fun _ i _=>rows.length - (intOf i).toNat)
 case atStart=>exact⟨0,Nat.zero_le _,rfl,⟨q,by simp [tot],rfl⟩,Ext.refl _⟩
 case round =>
  obtain⟨k,hk,rfl,⟨q',hq',rfl⟩,he⟩:=hrel
  by_cases hlt:k<rows.length
  ·
   obtain⟨r0,b1,o1,s,hr0,rfl,_,hci,hcs,hin0⟩:=HA.out k hlt
   have hr:rows[k]?=some rows[k]:=List.getElem?_eq_getElem hlt
   obtain⟨L,hLr⟩:∃ L,L=(rows[k]).2.length:=⟨_,rfl⟩
   have hm0:=marks_get (n:=0) (q:=q) hr
   rw [← hq',← hLr] at hm0
   obtain rfl:r0=(run q' 0,run (q'+(0:Nat)) L):=by rw [hr0] at hm0;exact Option.some.inj hm0
   have ht1:=tot_take (n:=0) hr
   have ht2:=tot_le (n:=0) rows (k+1)
   rw [← hLr] at ht1
   have HQ:=Lib.hid hq';have HT:=Lib.hid ht1
   have hq0:0≤q'∧q'+0+L≤4611686018427387904:=by omega
   obtain⟨hq1,hq2⟩:=hq0
   have d0:=he.cell hcs
   simp only [Nat.add_zero,Nat.zero_add,Nat.mul_one] at d0
   have hin:Ints 1 wr s (run (q') L):=by have:=hin0.ext he;simpa using this
   obtain⟨sa,sn,sc,rfl⟩:=hin.shape
   clear hci hcs hr0 hm0 hin0 hq' ht1 ht2 hLr hr 
   have hneg:decide (q'+(L:Int)<0)=false:=by simp;omega
   go_wp2_with (first|(go_at_call 20;refine (heldInt64S_c _ _ L _ (hin.ext xT) oM oM).mono ?_;rintro e w1 ⟨rfl,hx⟩))
   go_roundw
   case rel =>
    have h3:=HT.out;have h4:=HQ.out
    exact⟨k+1,by omega,by go_num,⟨_,by omega,rfl⟩,he.trans xT⟩
   case measure=>simp [intOf];omega
  obtain rfl:k=rows.length:=by omega
  have HQ:=Lib.hid hq'
  clear hq'
  go_wp2
  go_ret
  have h4:=HQ.out
  rw [List.take_length] at h4
  exact⟨congrArg (fun z=>Ending.returned (.int .i64 z)) h4,he⟩
theorem markInt64SS_c (w:World) (B:Nat) (v:Value) (rows:List NRow) (ss:List Value) (q:Int) (h:OwnNs B 62 2 0 w v rows ss) (h0:0≤q) (h1:q+(tot 0 rows:Nat)≤4611686018427387904) :
  Calls Tryz.prog 259 #[v,.int .i64 q] w (RetM w (feet (v :: ss)) (.int .i64 (q+(tot 0 rows:Nat))) fun w'=>OwnNs B 62 2 0 w' v (marks 0 q rows) ss):=by
 obtain⟨a,len,ca,rfl,hlen,hca,hm⟩:∃ a len ca,v=.slice a len ca∧rows.length=len∧len≤ca∧ca≤maxLen:=by
  obtain⟨a,len,cap,h2,h3,h4,h5,_⟩:=Own.open_ h.2.2.1
  rw [ncells_len h.1 h.2.1] at h3
  exact⟨a,len,cap,h2,Nat.eq_of_mul_eq_mul_right oM h3,h4,h5⟩
 subst hlen
 have hssl:=h.2.1
 have HO:=Lib.hid h
 clear h
 unfold maxLen at hm
 go_enter Tryz.func259,Tryz.ntmps259
 go_wp2
 go_loopw [1,5] (fun kk i wr=>∃ k:Nat,k≤rows.length∧i=.int .i64 k∧(∃ q':Int,q'=q+(tot 0 (rows.take k):Nat)∧kk=.int .i64 q')∧Upd w wr (feet (.slice a rows.length ca :: ss))∧OwnNs B 62 2 0 wr (.slice a rows.length ca) ((marks 0 q rows).take k ++ rows.drop k) ss) (fun _ i _=>rows.length - (intOf i).toNat)
 case atStart=>exact⟨0,Nat.zero_le _,rfl,⟨q,by simp [tot],rfl⟩,Upd.refl _ _,by simpa using HO.out⟩
 case round =>
  obtain⟨k,hk,rfl,⟨q',hq',rfl⟩,he,hown⟩:=hrel
  by_cases hlt:k<rows.length
  ·
   have hr:rows[k]?=some rows[k]:=List.getElem?_eq_getElem hlt
   have hml:=length_marks 0 q rows
   have hmx:=mix_get hml hr
   obtain⟨s,hs⟩:∃ s,ss[k]?=some s:=⟨_,List.getElem?_eq_getElem oM⟩
   obtain⟨L,hLr⟩:∃ L,L=(rows[k]).2.length:=⟨_,rfl⟩
   have hm0:=marks_get (n:=0) (q:=q) hr
   rw [← hq',← hLr] at hm0
   have hstep:=mix_step hml hm0
   have ht1:=tot_take (n:=0) hr
   have ht2:=tot_le (n:=0) rows (k+1)
   rw [← hLr] at ht1
   have hq0:0≤q'∧q'+0+L≤4611686018427387904:=by omega
   obtain⟨hq1,hq2⟩:=hq0
   have hsown:OwnI B 2 1 wr s (rows[k]).2:=hown.2.2.2.own k s _ hs hmx
   obtain⟨sa,sn,sc,rfl⟩:=hsown.shape
   obtain⟨a',len',cap',hv,hcl,hc1,hc2,hcase⟩:=Own.open_ hown.2.2.1
   injection hv with hv1 hv2 hv3
   subst hv1;subst hv2;subst hv3
   have hnl:=ncells_len hown.1 (by rw [hown.2.1])
   rcases hcase with hz|⟨g,cur,rfl,hBg,hblk,hcsz,hpre⟩
   ·
    omega
   have hcell_s:cur[k]?=some (.slice sa sn sc):=by
    have h5:=ncells_sl hown.1 hmx hs
    rw [← h5]
    have:=mul_lt_of hlt 1
    simpa using hpre k oM
   have HC:=Lib.hid hc1
   have d0:wr.cell? ⟨g,k,none⟩=some (.slice sa sn sc):=by rw [hblk.cell];exact hcell_s
   have HQ:=Lib.hid hq';have HT:=Lib.hid ht1;have HH:=Lib.hid hown;have HST:=Lib.hid hstep;have HMX:=Lib.hid hmx;have HSS:=Lib.hid hs;have HLR:=Lib.hid hLr;have HCS:=Lib.hid hcsz;have HPRE:=Lib.hid hpre
   clear hm0 hq' ht1 ht2 hr hml hmx hs hstep hown hcell_s hcl hnl hLr hcsz hpre
   go_wp2_with (first|(go_at_call 19;refine (markInt64S_c _ B _ _ L (by have:=HLR.out;omega) _ hsown oM oM).mono ?_;rintro e w1 ⟨rfl,hx,hg⟩))
   go_roundw
   case rel =>
    have h3:=HT.out;have h4:=HQ.out
    have hO:OwnNs B 62 2 0 w1 (.slice (some ⟨g,0,none⟩) rows.length ca) ((marks 0 q rows).take (k+1) ++ rows.drop (k+1)) ss:=by
     rw [HST.out]
     have h6:=HH.out.set_row HMX.out HSS.out hx (xs:=run (q') L) (by simpa using hg)
     have h7:((rows[k]).1:List Int)=[]:=List.eq_nil_of_length_eq_zero (by simpa using HO.out.1 _ (List.getElem_mem hlt))
     rw [h7] at h6
     simpa [run] using h6
    exact⟨k+1,by omega,by go_num,⟨_,by omega,rfl⟩,(he.trans (hx.more (fun x hx'=>feet_sub HSS.out hx'))),hO⟩
   case measure=>simp [intOf];omega
  obtain rfl:k=rows.length:=by omega
  have HQ:=Lib.hid hq'
  clear hq'
  go_wp2
  go_ret
  have h4:=HQ.out
  rw [List.take_length] at h4
  refine⟨congrArg (fun z=>Ending.returned (.int .i64 z)) h4,he,?_⟩
  rw [List.drop_length,List.append_nil] at hown
  have:=length_marks 0 q rows
  rwa [List.take_of_length_le oM] at hown
theorem eqWriteS_c (w:World) (va vb:Value) (rows:List NRow) (ha:Nest 1 w va rows) (hb:Nest 1 w vb rows) :
  Calls Tryz.prog 250 #[va,vb] w (RetV w (.bool true)):=by
 have hwid:=ha.1
 obtain⟨a,ca,rfl,hca,hm,ha'⟩:=ha.open_
 obtain⟨b,cb,rfl,_,_,hb'⟩:=hb.open_
 have HA:=Lib.hid ha';have HB:=Lib.hid hb';have HW:=Lib.hid hwid
 clear ha' hb' ha hb hwid
 unfold maxLen at hm
 go_enter Tryz.func250,Tryz.ntmps250
 go_wp2
 go_loopw [5] (fun i wr=>∃ k:Nat,k≤rows.length∧i=.int .i64 k∧Ext w wr) (fun i _=>rows.length - (intOf i).toNat)
 case atStart=>exact⟨0,Nat.zero_le _,rfl,Ext.refl _⟩
 case round =>
  obtain⟨k,hk,rfl,he⟩:=hrel
  by_cases hlt:k<rows.length
  ·
   obtain⟨r,b1,o1,s,hr,rfl,_,hci,hcs,hin0⟩:=HA.out k hlt
   obtain⟨r2,b2,o2,t,hr2,rfl,_,hci2,hcs2,hin2⟩:=HB.out k hlt
   obtain rfl:r=r2:=by rw [hr] at hr2;exact Option.some.inj hr2
   have hrw:=HW.out r (List.mem_of_getElem? hr)
   obtain⟨x0,hx0⟩:∃ u,r.1[0]?=some u:=⟨_,List.getElem?_eq_getElem (by rw [hrw];decide)⟩
   have d0:=he.cell (hci 0 _ hx0)
   have d1:=he.cell hcs
   simp only [Nat.add_zero,Nat.reduceAdd] at d0 d1
   have d02:=he.cell (hci2 0 _ hx0)
   have d12:=he.cell hcs2
   simp only [Nat.add_zero,Nat.reduceAdd] at d02 d12
   have g1:=hin0.ext he;have g2:=hin2.ext he
   obtain⟨sa,sn,sc,rfl⟩:=g1.shape;obtain⟨ta,tn,tc,rfl⟩:=g2.shape
   clear hci hcs hci2 hcs2 hrw hr hr2 hin0 hin2 hx0
   go_wp2
   go_region_held3 (fun w'=>Ext wr w'∧w'.cell? ⟨b1,o1+k * 2,none⟩=some (.int .i64 x0)∧w'.cell? ⟨b1,o1+k * 2+1,none⟩=some (.slice sa sn sc)∧w'.cell? ⟨b2,o2+k * 2,none⟩=some (.int .i64 x0)∧w'.cell? ⟨b2,o2+k * 2+1,none⟩=some (.slice ta tn tc)) (first|exact⟨Ext.drew (Ext.refl _),d0,d1,d02,d12⟩|exact held_of (S:=fun w'=>Ext wr w'∧w'.cell? ⟨b1,o1+k * 2,none⟩=some (.int .i64 x0)∧w'.cell? ⟨b1,o1+k * 2+1,none⟩=some (.slice sa sn sc)∧w'.cell? ⟨b2,o2+k * 2,none⟩=some (.int .i64 x0)∧w'.cell? ⟨b2,o2+k * 2+1,none⟩=some (.slice ta tn tc)) (by assumption) hx (fun a b h x=>⟨h.1.trans x,(h.1.trans x).cell d0,(h.1.trans x).cell d1,(h.1.trans x).cell d02,(h.1.trans x).cell d12⟩)) ((go_at_call 341;refine (eqWrite_c _ _ _ _ r.2 (g1.ext (And.left ‹_›)) (g2.ext (And.left ‹_›))).mono ?_;rintro e w' ⟨rfl,hx⟩))
   go_wp2
   go_roundw
   case rel=>exact⟨k+1,by omega,by go_num,he.trans (And.left ‹_›)⟩
   case measure=>simp [intOf];omega
  go_wp2
  go_ret
  exact⟨rfl,he⟩
theorem heldWriteS_c (w:World) (v:Value) (rows:List NRow) (q:Int) (h:Nest 1 w v (marks 1 q rows)) (h0:0≤q) (h1:q+(tot 1 rows:Nat)≤4611686018427387904) :
  Calls Tryz.prog 297 #[v,.int .i64 q] w (RetV w (.int .i64 (q+(tot 1 rows:Nat)))):=by
 obtain⟨a,ca,rfl,hca,hm,ha⟩:=h.open_
 rw [length_marks] at hca ha ⊢
 have HA:=Lib.hid ha
 clear ha h
 unfold maxLen at hm
 go_enter Tryz.func297,Tryz.ntmps297
 go_wp2
 go_loopw [1,5] (fun kk i wr=>∃ k:Nat,k≤rows.length∧i=.int .i64 k∧(∃ q':Int,q'=q+(tot 1 (rows.take k):Nat)∧kk=.int .i64 q')∧Ext w wr) (fun _ i _=>rows.length - (intOf i).toNat)
 case atStart=>exact⟨0,Nat.zero_le _,rfl,⟨q,by simp [tot],rfl⟩,Ext.refl _⟩
 case round =>
  obtain⟨k,hk,rfl,⟨q',hq',rfl⟩,he⟩:=hrel
  by_cases hlt:k<rows.length
  ·
   obtain⟨r0,b1,o1,s,hr0,rfl,_,hci,hcs,hin0⟩:=HA.out k hlt
   have hr:rows[k]?=some rows[k]:=List.getElem?_eq_getElem hlt
   obtain⟨L,hLr⟩:∃ L,L=(rows[k]).2.length:=⟨_,rfl⟩
   have hm0:=marks_get (n:=1) (q:=q) hr
   rw [← hq',← hLr] at hm0
   obtain rfl:r0=(run q' 1,run (q'+(1:Nat)) L):=by rw [hr0] at hm0;exact Option.some.inj hm0
   have ht1:=tot_take (n:=1) hr
   have ht2:=tot_le (n:=1) rows (k+1)
   rw [← hLr] at ht1
   have HQ:=Lib.hid hq';have HT:=Lib.hid ht1
   have hq0:0≤q'∧q'+1+L≤4611686018427387904:=by omega
   obtain⟨hq1,hq2⟩:=hq0
   have hx0:(run q' 1)[0]?=some (q'+0):=by rw [run_get _ _ _ oM];rfl
   have d0:=he.cell (hci 0 _ hx0)
   have d1:=he.cell hcs
   simp only [Nat.add_zero,Nat.reduceAdd,Int.add_zero] at d0 d1
   have hin:Ints 1 wr s (run (q'+1) L):=by have:=hin0.ext he;simpa using this
   obtain⟨sa,sn,sc,rfl⟩:=hin.shape
   clear hci hcs hr0 hm0 hin0 hq' ht1 ht2 hLr hr hx0
   have hneg:decide (q'+1+(L:Int)<0)=false:=by simp;omega
   go_wp2_with (first|(go_at_call 20;refine (heldInt64S_c _ _ L _ (hin.ext xT) oM oM).mono ?_;rintro e w1 ⟨rfl,hx⟩))
   go_roundw
   case rel =>
    have h3:=HT.out;have h4:=HQ.out
    exact⟨k+1,by omega,by go_num,⟨_,by omega,rfl⟩,he.trans xT⟩
   case measure=>simp [intOf];omega
  obtain rfl:k=rows.length:=by omega
  have HQ:=Lib.hid hq'
  clear hq'
  go_wp2
  go_ret
  have h4:=HQ.out
  rw [List.take_length] at h4
  exact⟨congrArg (fun z=>Ending.returned (.int .i64 z)) h4,he⟩
theorem markWriteS_c (w:World) (B:Nat) (v:Value) (rows:List NRow) (ss:List Value) (q:Int) (h:OwnNs B 312 2 1 w v rows ss) (h0:0≤q) (h1:q+(tot 1 rows:Nat)≤4611686018427387904) :
  Calls Tryz.prog 260 #[v,.int .i64 q] w (RetM w (feet (v :: ss)) (.int .i64 (q+(tot 1 rows:Nat))) fun w'=>OwnNs B 312 2 1 w' v (marks 1 q rows) ss):=by
 obtain⟨a,len,ca,rfl,hlen,hca,hm⟩:∃ a len ca,v=.slice a len ca∧rows.length=len∧len≤ca∧ca≤maxLen:=by
  obtain⟨a,len,cap,h2,h3,h4,h5,_⟩:=Own.open_ h.2.2.1
  rw [ncells_len h.1 h.2.1] at h3
  exact⟨a,len,cap,h2,Nat.eq_of_mul_eq_mul_right oM h3,h4,h5⟩
 subst hlen
 have hssl:=h.2.1
 have HO:=Lib.hid h
 clear h
 unfold maxLen at hm
 go_enter Tryz.func260,Tryz.ntmps260
 go_wp2
 go_loopw [1,5] (fun kk i wr=>∃ k:Nat,k≤rows.length∧i=.int .i64 k∧(∃ q':Int,q'=q+(tot 1 (rows.take k):Nat)∧kk=.int .i64 q')∧Upd w wr (feet (.slice a rows.length ca :: ss))∧OwnNs B 312 2 1 wr (.slice a rows.length ca) ((marks 1 q rows).take k ++ rows.drop k) ss) (fun _ i _=>rows.length - (intOf i).toNat)
 case atStart=>exact⟨0,Nat.zero_le _,rfl,⟨q,by simp [tot],rfl⟩,Upd.refl _ _,by simpa using HO.out⟩
 case round =>
  obtain⟨k,hk,rfl,⟨q',hq',rfl⟩,he,hown⟩:=hrel
  by_cases hlt:k<rows.length
  ·
   have hr:rows[k]?=some rows[k]:=List.getElem?_eq_getElem hlt
   have hml:=length_marks 1 q rows
   have hmx:=mix_get hml hr
   obtain⟨s,hs⟩:∃ s,ss[k]?=some s:=⟨_,List.getElem?_eq_getElem oM⟩
   obtain⟨L,hLr⟩:∃ L,L=(rows[k]).2.length:=⟨_,rfl⟩
   have hm0:=marks_get (n:=1) (q:=q) hr
   rw [← hq',← hLr] at hm0
   have hstep:=mix_step hml hm0
   have ht1:=tot_take (n:=1) hr
   have ht2:=tot_le (n:=1) rows (k+1)
   rw [← hLr] at ht1
   have hq0:0≤q'∧q'+1+L≤4611686018427387904:=by omega
   obtain⟨hq1,hq2⟩:=hq0
   have hsown:OwnI B 2 1 wr s (rows[k]).2:=hown.2.2.2.own k s _ hs hmx
   obtain⟨sa,sn,sc,rfl⟩:=hsown.shape
   obtain⟨a',len',cap',hv,hcl,hc1,hc2,hcase⟩:=Own.open_ hown.2.2.1
   injection hv with hv1 hv2 hv3
   subst hv1;subst hv2;subst hv3
   have hnl:=ncells_len hown.1 (by rw [hown.2.1])
   rcases hcase with hz|⟨g,cur,rfl,hBg,hblk,hcsz,hpre⟩
   ·
    omega
   have hcell_s:cur[k * 2+1]?=some (.slice sa sn sc):=by
    have h5:=ncells_sl hown.1 hmx hs
    rw [← h5]
    have:=mul_lt_of hlt 2
    exact hpre _ oM
   have HC:=Lib.hid hc1
   have d1:wr.cell? ⟨g,k * 2+1,none⟩=some (.slice sa sn sc):=by rw [hblk.cell];exact hcell_s
   obtain⟨z0,g0⟩:∃ z,wr.cell? ⟨g,k * 2,none⟩=some z:=⟨_,by rw [hblk.cell];exact Array.getElem?_eq_getElem (by have:=HC.out;have:=mul_lt_of hlt 2;have:=hcsz;omega)⟩
   have f0:=hblk.frozen (k * 2)
   have HQ:=Lib.hid hq';have HT:=Lib.hid ht1;have HH:=Lib.hid hown;have HST:=Lib.hid hstep;have HMX:=Lib.hid hmx;have HSS:=Lib.hid hs;have HLR:=Lib.hid hLr;have HCS:=Lib.hid hcsz;have HPRE:=Lib.hid hpre
   clear hm0 hq' ht1 ht2 hr hml hmx hs hstep hown hcell_s hcl hnl hLr hcsz hpre
   have o0:=HH.out;have m0:((marks 1 q rows).take k ++ rows.drop k)[k]?=some ((rows[k]).1,(rows[k]).2):=HMX.out
   have hkl:k<((marks 1 q rows).take k ++ rows.drop k).length:=(List.getElem?_eq_some_iff.1 m0).1
   have o1:OwnNs B 312 2 1 (wr.setCell ⟨g,k * 2,none⟩ (.int .i64 q')) (.slice (some ⟨g,0,none⟩) rows.length ca) (((marks 1 q rows).take k ++ rows.drop k).set k (((rows[k]).1.set 0 (q')),(rows[k]).2)) ss:=by have h:=o0.set_int m0 (j:=0) oM (q');simpa [List.set_set] using h
   have m1:(((marks 1 q rows).take k ++ rows.drop k).set k (((rows[k]).1.set 0 (q')),(rows[k]).2))[k]?=some (((rows[k]).1.set 0 (q')),(rows[k]).2):=by rw [List.getElem?_set_self hkl]
   have hso:OwnI B 2 1 (wr.setCell ⟨g,k * 2,none⟩ (.int .i64 q')) (.slice sa sn sc) (rows[k]).2:=o1.2.2.2.own k _ (((rows[k]).1.set 0 (q')),(rows[k]).2) HSS.out m1
   have hup:Upd wr (wr.setCell ⟨g,k * 2,none⟩ (.int .i64 q')) (feet ((.slice (some ⟨g,0,none⟩) rows.length ca) :: ss)):=(((Upd.refl wr _)).setCell (by simp [feet,Value.ownBlock]) _)
   have O:=Lib.hid o1;have MM:=Lib.hid m1;have HSO:=Lib.hid hso;have HUP:=Lib.hid hup;clear o0 m0 o1 m1 hso hup hsown
   go_wp2_with (first|(go_at_call 19;refine (markInt64S_c _ B _ _ L (by have:=HLR.out;omega) _ HSO.out oM oM).mono ?_;rintro e w1 ⟨rfl,hx,hg⟩))
   go_roundw
   case rel =>
    have h3:=HT.out;have h4:=HQ.out
    have hO:OwnNs B 312 2 1 w1 (.slice (some ⟨g,0,none⟩) rows.length ca) ((marks 1 q rows).take (k+1) ++ rows.drop (k+1)) ss:=by
     rw [HST.out]
     have h6:=O.out.set_row MM.out HSS.out hx (xs:=run (q'+1) L) (by simpa using hg)
     have h7:((rows[k]).1:List Int).length=1:=HO.out.1 _ (List.getElem_mem hlt)
     obtain⟨y0,h8⟩:∃ y0,(rows[k]).1=[y0]:=by match (rows[k]).1,h7 with|[y0],_=>exact⟨y0,rfl⟩
     rw [h8] at h6
     simpa [run,List.set_set,Int.add_assoc] using h6
    exact⟨k+1,by omega,by go_num,⟨_,by omega,rfl⟩,(he.trans (HUP.out.trans (hx.more (fun x hx'=>feet_sub HSS.out hx')))),hO⟩
   case measure=>simp [intOf];omega
  obtain rfl:k=rows.length:=by omega
  have HQ:=Lib.hid hq'
  clear hq'
  go_wp2
  go_ret
  have h4:=HQ.out
  rw [List.take_length] at h4
  refine⟨congrArg (fun z=>Ending.returned (.int .i64 z)) h4,he,?_⟩
  rw [List.drop_length,List.append_nil] at hown
  have:=length_marks 1 q rows
  rwa [List.take_of_length_le oM] at hown
theorem eqDisk_c (w:World) (s0:Value) (t0:Value) (d0:List (List Int × List Int)) (s1:Value) (t1:Value) (d1:List (List Int × List Int)) (h0:Nest 0 w s0 d0) (k0:Nest 0 w t0 d0) (h1:Nest 1 w s1 d1) (k1:Nest 1 w t1 d1) :
  Calls Tryz.prog 145 #[.agg #[s0,s1],.agg #[t0,t1]] w (RetV w (.bool true)):=by
 go_enter Tryz.func145,Tryz.ntmps145
 go_wp2_with (first|(go_at_call 249;refine (eqInt64SS_c _ s0 t0 d0 (h0.ext xT) (k0.ext xT)).mono ?_;rintro e w1 ⟨rfl,hx1⟩;have hz1:=hx1.size;obtain⟨hc1,hf1⟩:=hx1.cells;(repeat (first|simp only [World.size_alloc] at hz1 hc1 hf1|simp only [World.size_setCell] at hz1 hc1 hf1));have hy1_0:w.heap.size<w1.heap.size:=oM;have hy1_1:w.heap.size+1<w1.heap.size:=oM)|(go_at_call 250;refine (eqWriteS_c _ s1 t1 d1 (h1.ext xT) (k1.ext xT)).mono ?_;rintro e w2 ⟨rfl,hx2⟩;have hz2:=hx2.size;obtain⟨hc2,hf2⟩:=hx2.cells;(repeat (first|simp only [World.size_alloc] at hz2 hc2 hf2|simp only [World.size_setCell] at hz2 hc2 hf2));have hy2_0:w.heap.size<w2.heap.size:=oM;have hy2_1:w.heap.size+1<w2.heap.size:=oM))
 go_ret
 refine⟨rfl,?_⟩
 exact xT
theorem markDisk_c (w:World) (B:Nat) (s0:Value) (d0:List NRow) (ss0:List Value) (s1:Value) (d1:List NRow) (ss1:List Value) (q:Int) (h0:OwnNs B 62 2 0 w s0 d0 ss0) (h1:OwnNs B 312 2 1 w s1 d1 ss1)
  (hd:∀ k,k ∈ feet (s0 :: ss0)→k ∈ feet (s1 :: ss1)→False) (hq0:0≤q) (hq1:q+(tot 0 d0:Nat)+(tot 1 d1:Nat)≤4611686018427387904) :
  Calls Tryz.prog 157 #[.agg #[s0,s1],.int .i64 q] w (RetM w (feet (s0 :: ss0) ++ feet (s1 :: ss1)) (.int .i64 (q+(tot 0 d0:Nat)+(tot 1 d1:Nat))) fun w'=>OwnNs B 62 2 0 w' s0 (marks 0 q d0) ss0∧OwnNs B 312 2 1 w' s1 (marks 1 (q+(tot 0 d0:Nat)) d1) ss1):=by
 obtain⟨a0,n0,c0,rfl⟩:=h0.nest.shape
 obtain⟨a1,n1,c1,rfl⟩:=h1.nest.shape
 go_enter Tryz.func157,Tryz.ntmps157
 go_wp2_with fail
 refine (markInt64SS_c _ B _ _ ss0 _ (h0.ext xT) oM oM).mono ?_
 rintro e w1 ⟨rfl,hx1,g0⟩
 have hb:Blk w1 w.heap.size 70 #[.slice a0 n0 c0,.slice a1 n1 c1]:=Blk.upd (Blk.new _ _ _) hx1 (fun hk=>by have:=h0.foot _ hk;omega)
 have hc:=hb.cell
 have g1:OwnNs B 312 2 1 w1 (.slice a1 n1 c1) d1 ss1:=OwnNs.upd (h1.ext ((Ext.refl w).alloc _)) hx1 (fun k h2 h3=>hd k h3 h2)
 have hlt:=hb.lt
 go_wp2_with fail
 refine (markWriteS_c _ B _ _ ss1 _ (g1.ext xT) oM oM).mono ?_
 rintro e w2 ⟨rfl,hx2,g1'⟩
 clear hc
 go_wp2
 go_ret
 refine⟨rfl,((Ext.upd ((Ext.refl w).alloc _) _).trans (hx1.more (fun k hk=>List.mem_append_left _ hk))).trans (hx2.more (fun k hk=>List.mem_append_right _ hk)),OwnNs.upd g0 hx2 (fun k h2 h3=>hd k h2 h3),g1'⟩
theorem heldDisk_c (w:World) (s0:Value) (d0:List NRow) (s1:Value) (d1:List NRow) (q:Int) (h0:Nest 0 w s0 (marks 0 q d0)) (h1:Nest 1 w s1 (marks 1 (q+(tot 0 d0:Nat)) d1)) (hq0:0≤q) (hq1:q+(tot 0 d0:Nat)+(tot 1 d1:Nat)≤4611686018427387904) :
  Calls Tryz.prog 193 #[.agg #[s0,s1],.int .i64 q] w (RetV w (.int .i64 (q+(tot 0 d0:Nat)+(tot 1 d1:Nat)))):=by
 obtain⟨a0,n0,c0,rfl⟩:=h0.shape
 obtain⟨a1,n1,c1,rfl⟩:=h1.shape
 have ht0:decide (q+((tot 0 d0:Nat):Int)<0)=false:=by simp;omega
 have ht1:decide (q+((tot 0 d0:Nat):Int)+((tot 1 d1:Nat):Int)<0)=false:=by simp;omega
 go_enter Tryz.func193,Tryz.ntmps193
 go_wp2_with fail
 refine (heldInt64SS_c _ _ _ _ (h0.ext xT) oM oM).mono ?_
 rintro e w1 ⟨rfl,hx1⟩
 have hb:Blk w1 w.heap.size 70 #[.slice a0 n0 c0,.slice a1 n1 c1]:=Blk.ext (Blk.new _ _ _) hx1
 have hc:=hb.cell;have hlt:=hb.lt
 go_wp2_with fail
 refine (heldWriteS_c _ _ _ _ (h1.ext xT) oM oM).mono ?_
 rintro e w2 ⟨rfl,hx2⟩
 clear hc
 go_wp2
 go_ret
 refine⟨rfl,?_⟩
 exact xT
theorem eqPair_c (w:World) (x0 x1:Int) :
  Calls Tryz.prog 342 #[.agg #[.int .i64 x0,.int .i64 x1],.agg #[.int .i64 x0,.int .i64 x1]] w (RetV w (.bool true)):=by
 go_enter Tryz.func342,Tryz.ntmps342
 go_wp2
 repeat (go_quiet (fail);go_wp2)
 go_ret
 exact⟨rfl,xT⟩
theorem eqPairS_c (w:World) (va vb:Value) (xs:List Int) (ha:Ints 2 w va xs) (hb:Ints 2 w vb xs) :
  Calls Tryz.prog 251 #[va,vb] w (RetV w (.bool true)):=by
 obtain⟨a,len,ca,rfl,hl,hca,hm,ha'⟩:=ha.open_
 obtain⟨b,len',cb,rfl,hl',_,_,hb'⟩:=hb.open_
 obtain rfl:len=len':=by omega
 have HA:=Lib.hid ha';have HB:=Lib.hid hb'
 clear ha' hb' hl hl' ha hb
 unfold maxLen at hm
 go_enter Tryz.func251,Tryz.ntmps251
 go_wp2
 go_loopw [5] (fun i wr=>∃ k:Nat,k≤len∧i=.int .i64 k∧Ext w wr) (fun i _=>len - (intOf i).toNat)
 case atStart=>exact⟨0,Nat.zero_le _,rfl,Ext.refl _⟩
 case round =>
  obtain⟨k,hk,rfl,he⟩:=hrel
  by_cases hlt:k<len
  ·
   obtain⟨b1,o1,rfl,_,c1⟩:=HA.out k hlt
   obtain⟨b2,o2,rfl,_,c2⟩:=HB.out k hlt
   obtain⟨x0,hx0,c10⟩:=c1 0 oM
   obtain⟨x1,hx1,c11⟩:=c1 1 oM
   obtain⟨y0,hy0,c20⟩:=c2 0 oM
   obtain⟨y1,hy1,c21⟩:=c2 1 oM
   obtain rfl:x0=y0:=by rw [hx0] at hy0;exact Option.some.inj hy0
   obtain rfl:x1=y1:=by rw [hx1] at hy1;exact Option.some.inj hy1
   have d0:=he.cell c10;have e0:=he.cell c20
   have d1:=he.cell c11;have e1:=he.cell c21
   simp only [Nat.add_zero] at d0 e0
   clear c1 c2 c10 c20 hx0 hy0 c11 c21 hx1 hy1
   go_wp2
   go_region_held3 (fun w'=>Ext wr w'∧w'.cell? ⟨b1,o1+k * 2,none⟩=some (.int .i64 x0)∧w'.cell? ⟨b1,o1+k * 2+1,none⟩=some (.int .i64 x1)∧w'.cell? ⟨b2,o2+k * 2,none⟩=some (.int .i64 x0)∧w'.cell? ⟨b2,o2+k * 2+1,none⟩=some (.int .i64 x1)) (first|exact⟨Ext.drew (Ext.refl _),d0,d1,e0,e1⟩|exact held_of (S:=fun w'=>Ext wr w'∧w'.cell? ⟨b1,o1+k * 2,none⟩=some (.int .i64 x0)∧w'.cell? ⟨b1,o1+k * 2+1,none⟩=some (.int .i64 x1)∧w'.cell? ⟨b2,o2+k * 2,none⟩=some (.int .i64 x0)∧w'.cell? ⟨b2,o2+k * 2+1,none⟩=some (.int .i64 x1)) (by assumption) hx (fun a b h x=>⟨h.1.trans x,(h.1.trans x).cell d0,(h.1.trans x).cell d1,(h.1.trans x).cell e0,(h.1.trans x).cell e1⟩)) ((go_at_call 342;refine (eqPair_c _ _ _).mono ?_;rintro e w' ⟨rfl,hx⟩))
   go_wp2
   go_roundw
   case rel=>exact⟨k+1,by omega,by go_num,he.trans (And.left ‹_›)⟩
   case measure=>simp [intOf];omega
  go_wp2
  go_ret
  exact⟨rfl,he⟩
theorem markPairS_c (w:World) (B:Nat) (v:Value) (xs:List Int) (L:Nat) (hL:xs.length=L * 2) (q:Int) (h:OwnI B 362 2 w v xs) (h0:0≤q) (h1:q+(L * 2:Nat)≤4611686018427387904) :
  Calls Tryz.prog 261 #[v,.int .i64 q] w (RetM w (feet [v]) (.int .i64 (q+(L * 2:Nat))) fun w'=>OwnI B 362 2 w' v (run q (L * 2))):=by
 obtain⟨a,len,ca,rfl,hl,hca,hm,hop⟩:=Own.open_ h
 rw [List.length_map] at hl
 obtain rfl:L=len:=by omega
 unfold maxLen at hm
 rcases hop with h00|⟨g,cur0,rfl,hB,hb0,hs0,-⟩
 ·
  subst h00
  have hfin:OwnI B 362 2 w (.slice a 0 ca) (run q (0 * 2)):=by
   refine Own.empty h ?_ _ ?_
   ·
    exact List.eq_nil_of_length_eq_zero (by simpa using hL)
   simp [run]
  have HF:=Lib.hid hfin
  clear hfin h hL hl
  have hq:q+((0 * 2:Nat):Int)=q:=by simp
  rw [hq]
  clear hq
  go_enter Tryz.func261,Tryz.ntmps261
  go_wp2
  go_loopw [1,5] (fun kk i wr=>kk=.int .i64 q∧i=.int .i64 0∧wr=w) (fun _ _ _=>0)
  case atStart=>exact⟨rfl,rfl,rfl⟩
  case round =>
   obtain⟨rfl,rfl,rfl⟩:=hrel
   go_wp2
   go_ret
   exact⟨rfl,Upd.refl _ _,HF.out⟩
 have HS:=Lib.hid hs0
 have HC:=Lib.hid (show L * 2≤ca * 2 by have:=Nat.mul_le_mul_right 2 hca;omega)
 clear hs0 hL hl h
 go_enter Tryz.func261,Tryz.ntmps261
 go_wp2
 go_loopw [1,5] (fun kk i wr=>∃ k:Nat,k≤L∧i=.int .i64 k∧(∃ q':Int,q'=q+(k * 2:Nat)∧kk=.int .i64 q')∧Upd w wr [g]∧∃ cur,Blk wr g 362 cur∧cur.size=ca * 2∧Pre cur (k * 2) ((run q (L * 2)).map (.int .i64))) (fun _ i _=>L - (intOf i).toNat)
 case atStart=>exact⟨0,Nat.zero_le _,rfl,⟨q,by simp,rfl⟩,Upd.refl _ _,cur0,hb0,HS.out,by simpa using Pre.zero _ _⟩
 case round =>
  obtain⟨k,hk,rfl,⟨q',hq',rfl⟩,he,cur,hblk,hsz,hpre⟩:=hrel
  clear HS
  have HS:=Lib.hid hsz
  have HQ:=Lib.hid hq'
  by_cases hlt:k<L
  ·
   have hq1:0≤q'∧q'+2≤4611686018427387904:=by have:=mul_lt_of hlt 2;omega
   obtain⟨hq1,hq2⟩:=hq1
   clear hsz hq'
   obtain⟨z0,g0⟩:∃ z,wr.cell? ⟨g,k * 2,none⟩=some z:=⟨_,by rw [hblk.cell];exact Array.getElem?_eq_getElem (by have:=HS.out;have:=HC.out;have:=mul_lt_of hlt 2;omega)⟩
   have f0:=hblk.frozen (k * 2)
   obtain⟨z1,g1⟩:∃ z,wr.cell? ⟨g,k * 2+1,none⟩=some z:=⟨_,by rw [hblk.cell];exact Array.getElem?_eq_getElem (by have:=HS.out;have:=HC.out;have:=mul_lt_of hlt 2;omega)⟩
   have f1:=hblk.frozen (k * 2+1)
   go_wp2
   go_roundw
   case rel=>exact⟨k+1,by omega,by go_num,⟨_,by have:=HQ.out;omega,rfl⟩,((he.setCell (by simp) _).setCell (by simp) _),_,((hblk.set_ _ _).set_ _ _),by simp;exact HS.out,(((hpre.set (run_cell' (by have:=mul_lt_of hlt 2;omega) (by have:=HQ.out;omega)) (by have:=HS.out;have:=mul_lt_of hlt 2;have:=HC.out;omega)).set (run_cell' (by have:=mul_lt_of hlt 2;omega) (by have:=HQ.out;omega)) (by have:=HS.out;have:=mul_lt_of hlt 2;have:=HC.out;simp;omega))).cast oM⟩
   case measure=>simp [intOf];omega
  obtain rfl:k=L:=by omega
  clear hsz hq'
  go_wp2
  go_ret
  refine⟨congrArg (fun z=>Ending.returned (.int .i64 z)) HQ.out,he,Own.of_blk hblk hB HS.out (by simp [length_run]) hca (by unfold maxLen;omega) hpre⟩
theorem heldPairS_c (w:World) (v:Value) (L:Nat) (q:Int) (h:Ints 2 w v (run q (L * 2))) (h0:0≤q) (h1:q+(L * 2:Nat)≤4611686018427387904) :
  Calls Tryz.prog 298 #[v,.int .i64 q] w (RetV w (.int .i64 (q+(L * 2:Nat)))):=by
 obtain⟨a,len,ca,rfl,hl,hca,hm,ha⟩:=h.open_
 rw [length_run] at hl
 obtain rfl:L=len:=by omega
 have HA:=Lib.hid ha
 clear ha hl h
 unfold maxLen at hm
 go_enter Tryz.func298,Tryz.ntmps298
 go_wp2
 go_loopw [1,5] (fun kk i wr=>∃ k:Nat,k≤L∧i=.int .i64 k∧(∃ q':Int,q'=q+(k * 2:Nat)∧kk=.int .i64 q')∧Ext w wr) (fun _ i _=>L - (intOf i).toNat)
 case atStart=>exact⟨0,Nat.zero_le _,rfl,⟨q,by simp,rfl⟩,Ext.refl _⟩
 case round =>
  obtain⟨k,hk,rfl,⟨q',hq',rfl⟩,he⟩:=hrel
  by_cases hlt:k<L
  ·
   obtain⟨b1,o1,rfl,_,c1⟩:=HA.out k hlt
   obtain⟨x0,hx0,c10⟩:=c1 0 oM
   obtain rfl:q'=x0:=by rw [run_get _ _ _ (by have:=mul_lt_of hlt 2;omega)] at hx0;have:=Option.some.inj hx0;omega
   have d0:=he.cell c10
   obtain⟨x1,hx1,c11⟩:=c1 1 oM
   obtain rfl:x1=q'+1:=by rw [run_get _ _ _ (by have:=mul_lt_of hlt 2;omega)] at hx1;have:=Option.some.inj hx1;omega
   have d1:=he.cell c11
   have hq1:0≤q'∧q'+2≤4611686018427387904:=by have:=mul_lt_of hlt 2;omega
   obtain⟨hq1,hq2⟩:=hq1
   have HQ:=Lib.hid hq'
   simp only [Nat.add_zero] at d0
   clear c1 c10 hx0 c11 hx1 hq'
   go_wp2
   repeat (go_quiet (fail);go_wp2)
   go_roundw
   case rel=>exact⟨k+1,by omega,by go_num,⟨_,by have:=HQ.out;omega,rfl⟩,xT⟩
   case measure=>simp [intOf];omega
  obtain rfl:k=L:=by omega
  have HQ:=Lib.hid hq'
  clear hq'
  go_wp2
  go_ret
  exact⟨congrArg (fun z=>Ending.returned (.int .i64 z)) HQ.out,he⟩
theorem eqJob_c (w:World) (x0 x1 x2 x3 x4:Int) :
  Calls Tryz.prog 343 #[.agg #[.int .i64 x0,.int .i64 x1,.int .i64 x2,.int .i64 x3,.int .i64 x4],.agg #[.int .i64 x0,.int .i64 x1,.int .i64 x2,.int .i64 x3,.int .i64 x4]] w (RetV w (.bool true)):=by
 go_enter Tryz.func343,Tryz.ntmps343
 go_wp2
 repeat (go_quiet (fail);go_wp2)
 go_ret
 exact⟨rfl,xT⟩
theorem eqJobS_c (w:World) (va vb:Value) (xs:List Int) (ha:Ints 5 w va xs) (hb:Ints 5 w vb xs) :
  Calls Tryz.prog 252 #[va,vb] w (RetV w (.bool true)):=by
 obtain⟨a,len,ca,rfl,hl,hca,hm,ha'⟩:=ha.open_
 obtain⟨b,len',cb,rfl,hl',_,_,hb'⟩:=hb.open_
 obtain rfl:len=len':=by omega
 have HA:=Lib.hid ha';have HB:=Lib.hid hb'
 clear ha' hb' hl hl' ha hb
 unfold maxLen at hm
 go_enter Tryz.func252,Tryz.ntmps252
 go_wp2
 go_loopw [5] (fun i wr=>∃ k:Nat,k≤len∧i=.int .i64 k∧Ext w wr) (fun i _=>len - (intOf i).toNat)
 case atStart=>exact⟨0,Nat.zero_le _,rfl,Ext.refl _⟩
 case round =>
  obtain⟨k,hk,rfl,he⟩:=hrel
  by_cases hlt:k<len
  ·
   obtain⟨b1,o1,rfl,_,c1⟩:=HA.out k hlt
   obtain⟨b2,o2,rfl,_,c2⟩:=HB.out k hlt
   obtain⟨x0,hx0,c10⟩:=c1 0 oM
   obtain⟨x1,hx1,c11⟩:=c1 1 oM
   obtain⟨x2,hx2,c12⟩:=c1 2 oM
   obtain⟨x3,hx3,c13⟩:=c1 3 oM
   obtain⟨x4,hx4,c14⟩:=c1 4 oM
   obtain⟨y0,hy0,c20⟩:=c2 0 oM
   obtain⟨y1,hy1,c21⟩:=c2 1 oM
   obtain⟨y2,hy2,c22⟩:=c2 2 oM
   obtain⟨y3,hy3,c23⟩:=c2 3 oM
   obtain⟨y4,hy4,c24⟩:=c2 4 oM
   obtain rfl:x0=y0:=by rw [hx0] at hy0;exact Option.some.inj hy0
   obtain rfl:x1=y1:=by rw [hx1] at hy1;exact Option.some.inj hy1
   obtain rfl:x2=y2:=by rw [hx2] at hy2;exact Option.some.inj hy2
   obtain rfl:x3=y3:=by rw [hx3] at hy3;exact Option.some.inj hy3
   obtain rfl:x4=y4:=by rw [hx4] at hy4;exact Option.some.inj hy4
   have d0:=he.cell c10;have e0:=he.cell c20
   have d1:=he.cell c11;have e1:=he.cell c21
   have d2:=he.cell c12;have e2:=he.cell c22
   have d3:=he.cell c13;have e3:=he.cell c23
   have d4:=he.cell c14;have e4:=he.cell c24
   simp only [Nat.add_zero] at d0 e0
   clear c1 c2 c10 c20 hx0 hy0 c11 c21 hx1 hy1 c12 c22 hx2 hy2 c13 c23 hx3 hy3 c14 c24 hx4 hy4
   go_wp2
   go_region_held3 (fun w'=>Ext wr w'∧w'.cell? ⟨b1,o1+k * 5,none⟩=some (.int .i64 x0)∧w'.cell? ⟨b1,o1+k * 5+1,none⟩=some (.int .i64 x1)∧w'.cell? ⟨b1,o1+k * 5+2,none⟩=some (.int .i64 x2)∧w'.cell? ⟨b1,o1+k * 5+3,none⟩=some (.int .i64 x3)∧w'.cell? ⟨b1,o1+k * 5+4,none⟩=some (.int .i64 x4)∧w'.cell? ⟨b2,o2+k * 5,none⟩=some (.int .i64 x0)∧w'.cell? ⟨b2,o2+k * 5+1,none⟩=some (.int .i64 x1)∧w'.cell? ⟨b2,o2+k * 5+2,none⟩=some (.int .i64 x2)∧w'.cell? ⟨b2,o2+k * 5+3,none⟩=some (.int .i64 x3)∧w'.cell? ⟨b2,o2+k * 5+4,none⟩=some (.int .i64 x4)) (first|exact⟨Ext.drew (Ext.refl _),d0,d1,d2,d3,d4,e0,e1,e2,e3,e4⟩|exact held_of (S:=fun w'=>Ext wr w'∧w'.cell? ⟨b1,o1+k * 5,none⟩=some (.int .i64 x0)∧w'.cell? ⟨b1,o1+k * 5+1,none⟩=some (.int .i64 x1)∧w'.cell? ⟨b1,o1+k * 5+2,none⟩=some (.int .i64 x2)∧w'.cell? ⟨b1,o1+k * 5+3,none⟩=some (.int .i64 x3)∧w'.cell? ⟨b1,o1+k * 5+4,none⟩=some (.int .i64 x4)∧w'.cell? ⟨b2,o2+k * 5,none⟩=some (.int .i64 x0)∧w'.cell? ⟨b2,o2+k * 5+1,none⟩=some (.int .i64 x1)∧w'.cell? ⟨b2,o2+k * 5+2,none⟩=some (.int .i64 x2)∧w'.cell? ⟨b2,o2+k * 5+3,none⟩=some (.int .i64 x3)∧w'.cell? ⟨b2,o2+k * 5+4,none⟩=some (.int .i64 x4)) (by assumption) hx (fun a b h x=>⟨h.1.trans x,(h.1.trans x).cell d0,(h.1.trans x).cell d1,(h.1.trans x).cell d2,(h.1.trans x).cell d3,(h.1.trans x).cell d4,(h.1.trans x).cell e0,(h.1.trans x).cell e1,(h.1.trans x).cell e2,(h.1.trans x).cell e3,(h.1.trans x).cell e4⟩)) ((go_at_call 343;refine (eqJob_c _ _ _ _ _ _).mono ?_;rintro e w' ⟨rfl,hx⟩))
   go_wp2
   go_roundw
   case rel=>exact⟨k+1,by omega,by go_num,he.trans (And.left ‹_›)⟩
   case measure=>simp [intOf];omega
  go_wp2
  go_ret
  exact⟨rfl,he⟩
theorem markJobS_c (w:World) (B:Nat) (v:Value) (xs:List Int) (L:Nat) (hL:xs.length=L * 5) (q:Int) (h:OwnI B 366 5 w v xs) (h0:0≤q) (h1:q+(L * 5:Nat)≤4611686018427387904) :
  Calls Tryz.prog 262 #[v,.int .i64 q] w (RetM w (feet [v]) (.int .i64 (q+(L * 5:Nat))) fun w'=>OwnI B 366 5 w' v (run q (L * 5))):=by
 obtain⟨a,len,ca,rfl,hl,hca,hm,hop⟩:=Own.open_ h
 rw [List.length_map] at hl
 obtain rfl:L=len:=by omega
 unfold maxLen at hm
 rcases hop with h00|⟨g,cur0,rfl,hB,hb0,hs0,-⟩
 ·
  subst h00
  have hfin:OwnI B 366 5 w (.slice a 0 ca) (run q (0 * 5)):=by
   refine Own.empty h ?_ _ ?_
   ·
    exact List.eq_nil_of_length_eq_zero (by simpa using hL)
   simp [run]
  have HF:=Lib.hid hfin
  clear hfin h hL hl
  have hq:q+((0 * 5:Nat):Int)=q:=by simp
  rw [hq]
  clear hq
  go_enter Tryz.func262,Tryz.ntmps262
  go_wp2
  go_loopw [1,5] (fun kk i wr=>kk=.int .i64 q∧i=.int .i64 0∧wr=w) (fun _ _ _=>0)
  case atStart=>exact⟨rfl,rfl,rfl⟩
  case round =>
   obtain⟨rfl,rfl,rfl⟩:=hrel
   go_wp2
   go_ret
   exact⟨rfl,Upd.refl _ _,HF.out⟩
 have HS:=Lib.hid hs0
 have HC:=Lib.hid (show L * 5≤ca * 5 by have:=Nat.mul_le_mul_right 5 hca;omega)
 clear hs0 hL hl h
 go_enter Tryz.func262,Tryz.ntmps262
 go_wp2
 go_loopw [1,5] (fun kk i wr=>∃ k:Nat,k≤L∧i=.int .i64 k∧(∃ q':Int,q'=q+(k * 5:Nat)∧kk=.int .i64 q')∧Upd w wr [g]∧∃ cur,Blk wr g 366 cur∧cur.size=ca * 5∧Pre cur (k * 5) ((run q (L * 5)).map (.int .i64))) (fun _ i _=>L - (intOf i).toNat)
 case atStart=>exact⟨0,Nat.zero_le _,rfl,⟨q,by simp,rfl⟩,Upd.refl _ _,cur0,hb0,HS.out,by simpa using Pre.zero _ _⟩
 case round =>
  obtain⟨k,hk,rfl,⟨q',hq',rfl⟩,he,cur,hblk,hsz,hpre⟩:=hrel
  clear HS
  have HS:=Lib.hid hsz
  have HQ:=Lib.hid hq'
  by_cases hlt:k<L
  ·
   have hq1:0≤q'∧q'+5≤4611686018427387904:=by have:=mul_lt_of hlt 5;omega
   obtain⟨hq1,hq2⟩:=hq1
   clear hsz hq'
   obtain⟨z0,g0⟩:∃ z,wr.cell? ⟨g,k * 5,none⟩=some z:=⟨_,by rw [hblk.cell];exact Array.getElem?_eq_getElem (by have:=HS.out;have:=HC.out;have:=mul_lt_of hlt 5;omega)⟩
   have f0:=hblk.frozen (k * 5)
   obtain⟨z1,g1⟩:∃ z,wr.cell? ⟨g,k * 5+1,none⟩=some z:=⟨_,by rw [hblk.cell];exact Array.getElem?_eq_getElem (by have:=HS.out;have:=HC.out;have:=mul_lt_of hlt 5;omega)⟩
   have f1:=hblk.frozen (k * 5+1)
   obtain⟨z2,g2⟩:∃ z,wr.cell? ⟨g,k * 5+2,none⟩=some z:=⟨_,by rw [hblk.cell];exact Array.getElem?_eq_getElem (by have:=HS.out;have:=HC.out;have:=mul_lt_of hlt 5;omega)⟩
   have f2:=hblk.frozen (k * 5+2)
   obtain⟨z3,g3⟩:∃ z,wr.cell? ⟨g,k * 5+3,none⟩=some z:=⟨_,by rw [hblk.cell];exact Array.getElem?_eq_getElem (by have:=HS.out;have:=HC.out;have:=mul_lt_of hlt 5;omega)⟩
   have f3:=hblk.frozen (k * 5+3)
   obtain⟨z4,g4⟩:∃ z,wr.cell? ⟨g,k * 5+4,none⟩=some z:=⟨_,by rw [hblk.cell];exact Array.getElem?_eq_getElem (by have:=HS.out;have:=HC.out;have:=mul_lt_of hlt 5;omega)⟩
   have f4:=hblk.frozen (k * 5+4)
   go_wp2
   go_roundw
   case rel=>exact⟨k+1,by omega,by go_num,⟨_,by have:=HQ.out;omega,rfl⟩,(((((he.setCell (by simp) _).setCell (by simp) _).setCell (by simp) _).setCell (by simp) _).setCell (by simp) _),_,(((((hblk.set_ _ _).set_ _ _).set_ _ _).set_ _ _).set_ _ _),by simp;exact HS.out,((((((hpre.set (run_cell' (by have:=mul_lt_of hlt 5;omega) (by have:=HQ.out;omega)) (by have:=HS.out;have:=mul_lt_of hlt 5;have:=HC.out;omega)).set (run_cell' (by have:=mul_lt_of hlt 5;omega) (by have:=HQ.out;omega)) (by have:=HS.out;have:=mul_lt_of hlt 5;have:=HC.out;simp;omega)).set (run_cell' (by have:=mul_lt_of hlt 5;omega) (by have:=HQ.out;omega)) (by have:=HS.out;have:=mul_lt_of hlt 5;have:=HC.out;simp;omega)).set (run_cell' (by have:=mul_lt_of hlt 5;omega) (by have:=HQ.out;omega)) (by have:=HS.out;have:=mul_lt_of hlt 5;have:=HC.out;simp;omega)).set (run_cell' (by have:=mul_lt_of hlt 5;omega) (by have:=HQ.out;omega)) (by have:=HS.out;have:=mul_lt_of hlt 5;have:=HC.out;simp;omega))).cast oM⟩
   case measure=>simp [intOf];omega
  obtain rfl:k=L:=by omega
  clear hsz hq'
  go_wp2
  go_ret
  refine⟨congrArg (fun z=>Ending.returned (.int .i64 z)) HQ.out,he,Own.of_blk hblk hB HS.out (by simp [length_run]) hca (by unfold maxLen;omega) hpre⟩
theorem heldJobS_c (w:World) (v:Value) (L:Nat) (q:Int) (h:Ints 5 w v (run q (L * 5))) (h0:0≤q) (h1:q+(L * 5:Nat)≤4611686018427387904) :
  Calls Tryz.prog 299 #[v,.int .i64 q] w (RetV w (.int .i64 (q+(L * 5:Nat)))):=by
 obtain⟨a,len,ca,rfl,hl,hca,hm,ha⟩:=h.open_
 rw [length_run] at hl
 obtain rfl:L=len:=by omega
 have HA:=Lib.hid ha
 clear ha hl h
 unfold maxLen at hm
 go_enter Tryz.func299,Tryz.ntmps299
 go_wp2
 go_loopw [1,5] (fun kk i wr=>∃ k:Nat,k≤L∧i=.int .i64 k∧(∃ q':Int,q'=q+(k * 5:Nat)∧kk=.int .i64 q')∧Ext w wr) (fun _ i _=>L - (intOf i).toNat)
 case atStart=>exact⟨0,Nat.zero_le _,rfl,⟨q,by simp,rfl⟩,Ext.refl _⟩
 case round =>
  obtain⟨k,hk,rfl,⟨q',hq',rfl⟩,he⟩:=hrel
  by_cases hlt:k<L
  ·
   obtain⟨b1,o1,rfl,_,c1⟩:=HA.out k hlt
   obtain⟨x0,hx0,c10⟩:=c1 0 oM
   obtain rfl:q'=x0:=by rw [run_get _ _ _ (by have:=mul_lt_of hlt 5;omega)] at hx0;have:=Option.some.inj hx0;omega
   have d0:=he.cell c10
   obtain⟨x1,hx1,c11⟩:=c1 1 oM
   obtain rfl:x1=q'+1:=by rw [run_get _ _ _ (by have:=mul_lt_of hlt 5;omega)] at hx1;have:=Option.some.inj hx1;omega
   have d1:=he.cell c11
   obtain⟨x2,hx2,c12⟩:=c1 2 oM
   obtain rfl:x2=q'+2:=by rw [run_get _ _ _ (by have:=mul_lt_of hlt 5;omega)] at hx2;have:=Option.some.inj hx2;omega
   have d2:=he.cell c12
   obtain⟨x3,hx3,c13⟩:=c1 3 oM
   obtain rfl:x3=q'+3:=by rw [run_get _ _ _ (by have:=mul_lt_of hlt 5;omega)] at hx3;have:=Option.some.inj hx3;omega
   have d3:=he.cell c13
   obtain⟨x4,hx4,c14⟩:=c1 4 oM
   obtain rfl:x4=q'+4:=by rw [run_get _ _ _ (by have:=mul_lt_of hlt 5;omega)] at hx4;have:=Option.some.inj hx4;omega
   have d4:=he.cell c14
   have hq1:0≤q'∧q'+5≤4611686018427387904:=by have:=mul_lt_of hlt 5;omega
   obtain⟨hq1,hq2⟩:=hq1
   have HQ:=Lib.hid hq'
   simp only [Nat.add_zero] at d0
   clear c1 c10 hx0 c11 hx1 c12 hx2 c13 hx3 c14 hx4 hq'
   go_wp2
   repeat (go_quiet (fail);go_wp2)
   go_roundw
   case rel=>exact⟨k+1,by omega,by go_num,⟨_,by have:=HQ.out;omega,rfl⟩,xT⟩
   case measure=>simp [intOf];omega
  obtain rfl:k=L:=by omega
  have HQ:=Lib.hid hq'
  clear hq'
  go_wp2
  go_ret
  exact⟨congrArg (fun z=>Ending.returned (.int .i64 z)) HQ.out,he⟩
theorem eqLease_c (w:World) (x0 x1 x2:Int) :
  Calls Tryz.prog 253 #[.agg #[.int .i64 x0,.int .i64 x1,.int .i64 x2],.agg #[.int .i64 x0,.int .i64 x1,.int .i64 x2]] w (RetV w (.bool true)):=by
 go_enter Tryz.func253,Tryz.ntmps253
 go_wp2
 repeat (go_quiet (fail);go_wp2)
 go_ret
 exact⟨rfl,xT⟩
theorem eqState_c (w:World) (c0:Int) (c1:Int) (s2:Value) (t2:Value) (d2:List Int) (s3:Value) (t3:Value) (d3:List Int) (c4:Int) (c5:Int) (c6:Int) (h2:Ints 2 w s2 d2) (k2:Ints 2 w t2 d2) (h3:Ints 5 w s3 d3) (k3:Ints 5 w t3 d3) :
  Calls Tryz.prog 146 #[.agg #[.int .i64 c0,.int .i64 c1,s2,s3,.int .i64 c4,.int .i64 c5,.int .i64 c6],.agg #[.int .i64 c0,.int .i64 c1,t2,t3,.int .i64 c4,.int .i64 c5,.int .i64 c6]] w (RetV w (.bool true)):=by
 go_enter Tryz.func146,Tryz.ntmps146
 go_wp2_with (first|(go_at_call 251;refine (eqPairS_c _ s2 t2 d2 (h2.ext xT) (k2.ext xT)).mono ?_;rintro e w1 ⟨rfl,hx1⟩;have hz1:=hx1.size;obtain⟨hc1,hf1⟩:=hx1.cells;(repeat (first|simp only [World.size_alloc] at hz1 hc1 hf1|simp only [World.size_setCell] at hz1 hc1 hf1));have hy1_0:w.heap.size<w1.heap.size:=oM;have hy1_1:w.heap.size+1<w1.heap.size:=oM)|(go_at_call 252;refine (eqJobS_c _ s3 t3 d3 (h3.ext xT) (k3.ext xT)).mono ?_;rintro e w2 ⟨rfl,hx2⟩;have hz2:=hx2.size;obtain⟨hc2,hf2⟩:=hx2.cells;(repeat (first|simp only [World.size_alloc] at hz2 hc2 hf2|simp only [World.size_setCell] at hz2 hc2 hf2));have hy2_0:w.heap.size<w2.heap.size:=oM;have hy2_1:w.heap.size+1<w2.heap.size:=oM)|(go_at_call 253;refine (eqLease_c _ c4 c5 c6).mono ?_;rintro e w3 ⟨rfl,hx3⟩;have hz3:=hx3.size;obtain⟨hc3,hf3⟩:=hx3.cells;(repeat (first|simp only [World.size_alloc] at hz3 hc3 hf3|simp only [World.size_setCell] at hz3 hc3 hf3));have hy3_0:w.heap.size<w3.heap.size:=oM;have hy3_1:w.heap.size+1<w3.heap.size:=oM))
 go_ret
 refine⟨rfl,?_⟩
 exact xT
theorem markState_c (w:World) (B:Nat) (c0 c1:Int) (s2:Value) (d2:List Int) (L2:Nat) (hL2:d2.length=L2 * 2) (s3:Value) (d3:List Int) (L3:Nat) (hL3:d3.length=L3 * 5) (c4 c5 c6:Int) (q:Int) (h2:OwnI B 362 2 w s2 d2) (h3:OwnI B 366 5 w s3 d3)
  (hd:∀ k,k ∈ feet [s2]→k ∈ feet [s3]→False) (hq0:0≤q) (hq1:q+(L2 * 2:Nat)+(L3 * 5:Nat)≤4611686018427387904) :
  Calls Tryz.prog 158 #[.agg #[.int .i64 c0,.int .i64 c1,s2,s3,.int .i64 c4,.int .i64 c5,.int .i64 c6],.int .i64 q] w (RetM w (feet [s2] ++ feet [s3]) (.int .i64 (q+(L2 * 2:Nat)+(L3 * 5:Nat))) fun w'=>OwnI B 362 2 w' s2 (run q (L2 * 2))∧OwnI B 366 5 w' s3 (run (q+(L2 * 2:Nat)) (L3 * 5))):=by
 obtain⟨a2,n2,k2,rfl⟩:=h2.shape
 obtain⟨a3,n3,k3,rfl⟩:=h3.shape
 obtain⟨Q,hQ⟩:∃ z:Int,z=q+((L2 * 2:Nat):Int):=⟨_,rfl⟩
 have h2f:=h2.foot
 rw [← hQ] at hq1 ⊢
 have hQ0:0≤Q:=by omega
 have HQ:=Lib.hid hQ
 go_enter Tryz.func158,Tryz.ntmps158
 go_wp2_with fail
 refine (markPairS_c _ B _ _ L2 hL2 _ (h2.ext xT) oM oM).mono ?_
 rintro e w1 ⟨rfl,hx1,g2⟩
 rw [← HQ.out]
 clear hQ
 have hb:Blk w1 w.heap.size 86 #[.int .i64 c0,.int .i64 c1,.slice a2 n2 k2,.slice a3 n3 k3,.int .i64 c4,.int .i64 c5,.int .i64 c6]:=Blk.upd (Blk.new _ _ _) hx1 (fun hk=>by have:=h2f _ hk;omega)
 have hc:=hb.cell;have hlt:=hb.lt
 have g3:OwnI B 366 5 w1 (.slice a3 n3 k3) d3:=OwnI.upd' (h3.ext ((Ext.refl w).alloc _)) hx1 (fun k h4 h5=>hd k h5 h4)
 go_wp2_with fail
 refine (markJobS_c _ B _ _ L3 hL3 _ (g3.ext xT) oM oM).mono ?_
 rintro e w2 ⟨rfl,hx2,g3'⟩
 clear hc
 go_wp2
 go_ret
 refine⟨rfl,((Ext.upd ((Ext.refl w).alloc _) _).trans (hx1.more (fun k hk=>List.mem_append_left _ hk))).trans (hx2.more (fun k hk=>List.mem_append_right _ hk)),OwnI.upd' g2 hx2 (fun k h4 h5=>hd k h4 h5),g3'⟩
theorem heldState_c (w:World) (c0 c1:Int) (s2:Value) (L2:Nat) (s3:Value) (L3:Nat) (c4 c5 c6:Int) (q:Int) (h2:Ints 2 w s2 (run q (L2 * 2))) (h3:Ints 5 w s3 (run (q+(L2 * 2:Nat)) (L3 * 5))) (hq0:0≤q) (hq1:q+(L2 * 2:Nat)+(L3 * 5:Nat)≤4611686018427387904) :
  Calls Tryz.prog 194 #[.agg #[.int .i64 c0,.int .i64 c1,s2,s3,.int .i64 c4,.int .i64 c5,.int .i64 c6],.int .i64 q] w (RetV w (.int .i64 (q+(L2 * 2:Nat)+(L3 * 5:Nat)))):=by
 obtain⟨a2,n2,k2,rfl⟩:=h2.shape
 obtain⟨a3,n3,k3,rfl⟩:=h3.shape
 obtain⟨Q,hQ⟩:∃ z:Int,z=q+((L2 * 2:Nat):Int):=⟨_,rfl⟩
 rw [← hQ] at hq1 h3 ⊢
 obtain⟨R,hR⟩:∃ z:Int,z=Q+((L3 * 5:Nat):Int):=⟨_,rfl⟩
 rw [← hR] at hq1 ⊢
 have hQ0:0≤Q:=by omega
 have hR0:0≤R:=by omega
 have hQ1:Q+((L3 * 5:Nat):Int)≤4611686018427387904:=by omega
 have ht0:decide (Q<0)=false:=by simp;omega
 have ht1:decide (R<0)=false:=by simp;omega
 have HQ:=Lib.hid hQ;have HR:=Lib.hid hR
 have hq2:q+((L2 * 2:Nat):Int)≤4611686018427387904:=by omega
 clear hQ hR
 go_enter Tryz.func194,Tryz.ntmps194
 go_wp2_with fail
 refine (heldPairS_c _ _ L2 q (h2.ext xT) oM hq2).mono ?_
 rintro e w1 ⟨rfl,hx1⟩
 rw [← HQ.out]
 have hb:Blk w1 w.heap.size 86 #[.int .i64 c0,.int .i64 c1,.slice a2 n2 k2,.slice a3 n3 k3,.int .i64 c4,.int .i64 c5,.int .i64 c6]:=Blk.ext (Blk.new _ _ _) hx1
 have hc:=hb.cell;have hlt:=hb.lt
 go_wp2_with fail
 refine (heldJobS_c _ _ L3 Q (h3.ext xT) oM hQ1).mono ?_
 rintro e w2 ⟨rfl,hx2⟩
 rw [← HR.out]
 clear hc
 go_wp2
 go_ret
 refine⟨rfl,?_⟩
 exact xT
theorem eqStore_c (w:World) (s0:Value) (t0:Value) (d0:List (List Int × List Int)) (s1:Value) (t1:Value) (d1:List (List Int × List Int)) (c2:Int) (c3:Int) (s4:Value) (t4:Value) (d4:List Int) (s5:Value) (t5:Value) (d5:List Int) (c6:Int) (c7:Int) (c8:Int) (c9:Int) (c10:Int) (c11:Int) (h0:Nest 0 w s0 d0) (k0:Nest 0 w t0 d0) (h1:Nest 1 w s1 d1) (k1:Nest 1 w t1 d1) (h4:Ints 2 w s4 d4) (k4:Ints 2 w t4 d4) (h5:Ints 5 w s5 d5) (k5:Ints 5 w t5 d5) :
  Calls Tryz.prog 53 #[.agg #[s0,s1,.int .i64 c2,.int .i64 c3,s4,s5,.int .i64 c6,.int .i64 c7,.int .i64 c8,.int .i64 c9,.int .i64 c10,.int .i64 c11],.agg #[t0,t1,.int .i64 c2,.int .i64 c3,t4,t5,.int .i64 c6,.int .i64 c7,.int .i64 c8,.int .i64 c9,.int .i64 c10,.int .i64 c11]] w (RetV w (.bool true)):=by
 go_enter Tryz.func53,Tryz.ntmps53
 go_wp2_with (first|(go_at_call 145;refine (eqDisk_c _ s0 t0 d0 s1 t1 d1 (h0.ext xT) (k0.ext xT) (h1.ext xT) (k1.ext xT)).mono ?_;rintro e w1 ⟨rfl,hx1⟩;have hz1:=hx1.size;obtain⟨hc1,hf1⟩:=hx1.cells;(repeat (first|simp only [World.size_alloc] at hz1 hc1 hf1|simp only [World.size_setCell] at hz1 hc1 hf1));have hy1_0:w.heap.size<w1.heap.size:=oM;have hy1_1:w.heap.size+1<w1.heap.size:=oM)|(go_at_call 146;refine (eqState_c _ c2 c3 s4 t4 d4 s5 t5 d5 c6 c7 c8 (h4.ext xT) (k4.ext xT) (h5.ext xT) (k5.ext xT)).mono ?_;rintro e w2 ⟨rfl,hx2⟩;have hz2:=hx2.size;obtain⟨hc2,hf2⟩:=hx2.cells;(repeat (first|simp only [World.size_alloc] at hz2 hc2 hf2|simp only [World.size_setCell] at hz2 hc2 hf2));have hy2_0:w.heap.size<w2.heap.size:=oM;have hy2_1:w.heap.size+1<w2.heap.size:=oM))
 go_ret
 refine⟨rfl,?_⟩
 exact xT
theorem l1In_c (w:World) (x lo hi:Int):Calls Tryz.prog 303 #[.int .i64 x,.int .i64 lo,.int .i64 hi] w fun e w'=>e=.returned (.bool (inb x lo hi))∧w=w':=by
 by_cases h1:lo≤x
 ·
  by_cases h2:x≤hi
  ·
   rw [inb_of h1 h2]
   go_enter Tryz.func303,Tryz.ntmps303
   go_wp2
   go_ret
   exact⟨rfl,rfl⟩
  rw [inb_hi oM]
  go_enter Tryz.func303,Tryz.ntmps303
  go_wp2
  go_ret
  exact⟨rfl,rfl⟩
 rw [inb_lo oM]
 go_enter Tryz.func303,Tryz.ntmps303
 go_wp2
 go_ret
 exact⟨rfl,rfl⟩
theorem between_c (w:World) (x lo hi:Int):Calls Tryz.prog 176 #[.int .i64 x,.int .i64 lo,.int .i64 hi] w fun e w'=>e=.returned (.bool (inb x lo hi))∧w=w':=by
 by_cases h1:lo≤x
 ·
  by_cases h2:x≤hi
  ·
   rw [inb_of h1 h2]
   go_enter Tryz.func176,Tryz.ntmps176
   go_wp2
   go_ret
   exact⟨rfl,rfl⟩
  rw [inb_hi oM]
  go_enter Tryz.func176,Tryz.ntmps176
  go_wp2
  go_ret
  exact⟨rfl,rfl⟩
 rw [inb_lo oM]
 go_enter Tryz.func176,Tryz.ntmps176
 go_wp2
 go_ret
 exact⟨rfl,rfl⟩
theorem sTimeOk_c (w:World) (x:Int):Calls Tryz.prog 207 #[.int .i64 x] w fun e w'=>e=.returned (.bool (timeOk x))∧w=w':=by
 go_enter Tryz.func207,Tryz.ntmps207
 go_wp2_with (first|(go_at_call 303;refine (l1In_c _ _ _ _).mono ?_;rintro e w1 ⟨rfl,rfl⟩))
 go_ret
 exact⟨rfl,rfl⟩
theorem l11DueLess_c (w:World) (a b:DDue):Calls Tryz.prog 427 #[.agg #[.int .i64 a.Id,.int .i64 a.Due],.agg #[.int .i64 b.Id,.int .i64 b.Due]] w (RetV w (.bool (dueLess a b))):=by
 by_cases h1:a.Due<b.Due
 ·
  rw [dueLess_lt h1]
  go_enter Tryz.func427,Tryz.ntmps427
  go_wp2
  go_ret
  exact⟨rfl,by repeat (with_reducible (first|exact Ext.refl _|refine Ext.alloc ?_ _))⟩
 by_cases h2:a.Due=b.Due
 ·
  have h2':(a.Due == b.Due)=true:=by simpa using h2
  by_cases h3:a.Id<b.Id
  ·
   rw [dueLess_id h2 h3]
   clear h2
   go_enter Tryz.func427,Tryz.ntmps427
   go_wp2
   go_ret
   exact⟨rfl,by repeat (with_reducible (first|exact Ext.refl _|refine Ext.alloc ?_ _))⟩
  rw [dueLess_ge h2 h3]
  clear h2
  go_enter Tryz.func427,Tryz.ntmps427
  go_wp2
  go_ret
  exact⟨rfl,by repeat (with_reducible (first|exact Ext.refl _|refine Ext.alloc ?_ _))⟩
 have h2':(a.Due == b.Due)=false:=by simpa using h2
 rw [dueLess_no h1 h2]
 clear h2
 go_enter Tryz.func427,Tryz.ntmps427
 go_wp2
 go_ret
 exact⟨rfl,by repeat (with_reducible (first|exact Ext.refl _|refine Ext.alloc ?_ _))⟩
theorem l7Id_c (w:World) (x:Int):Calls Tryz.prog 391 #[.int .i64 x] w fun e w'=>e=.returned (.bool (idOk x))∧w=w':=by
 go_enter Tryz.func391,Tryz.ntmps391
 go_wp2_with (first|(go_at_call 303;refine (l1In_c _ _ _ _).mono ?_;rintro e w1 ⟨rfl,rfl⟩))
 go_ret
 exact⟨rfl,rfl⟩
theorem timeOk_c (w:World) (x:Int):Calls Tryz.prog 177 #[.int .i64 x] w fun e w'=>e=.returned (.bool (timeOk x))∧w=w':=by
 go_enter Tryz.func177,Tryz.ntmps177
 go_wp2_with (first|(go_at_call 176;refine (between_c _ _ _ _).mono ?_;rintro e w1 ⟨rfl,rfl⟩))
 go_ret
 exact⟨rfl,rfl⟩
theorem idOk_c (w:World) (x:Int):Calls Tryz.prog 347 #[.int .i64 x] w fun e w'=>e=.returned (.bool (idOk x))∧w=w':=by
 go_enter Tryz.func347,Tryz.ntmps347
 go_wp2_with (first|(go_at_call 176;refine (between_c _ _ _ _).mono ?_;rintro e w1 ⟨rfl,rfl⟩))
 go_ret
 exact⟨rfl,rfl⟩
end Go.Proofs.YtkpmbocbbgocbaaGreat
namespace Go.G8
open Go.RowKit
def nestInt64S (l:List (List Int)):List NRow:=l.map (fun r=>([],r))
def nestWrite (l:List DWrite):List NRow:=l.map (fun d=>([d.At],d.Row))
def nestMsg (l:List DMsg):List NRow:=l.map (fun d=>([d.From,d.To],d.Row))
def rowOk (r:List Int):Bool:=decide (r.length≤48) && r.all (fun x=>inb x 0 1000000000)
def writeOk (n:Nat) (w:DWrite):Bool:=inb w.At 0 (n - 1) && rowOk w.Row
def diskOk (d:DDisk):Bool:=decide (1≤d.Kept.length∧d.Kept.length≤40∧d.Wait.length≤60) && (d.Kept.all rowOk && d.Wait.all (writeOk d.Kept.length))
def shelfOk (d:DDisk):Bool:=diskOk d && decide (d.Kept.length=8)
theorem all_step {α:Type} {p:α→Bool} {l:List α} {k:Nat} {d:α} (h:l[k]?=some d) (h1:(l.take k).all p=true) (h2:p d=true):(l.take (k+1)).all p=true:=by
 rw [List.take_add_one,h,List.all_append,h1];simp [h2]
theorem all_no {α:Type} {p:α→Bool} {l:List α} {k:Nat} {d:α} (h:l[k]?=some d) (h2:p d=false):l.all p=false:=by
 rw [Bool.eq_false_iff];intro hh
 rw [List.all_eq_true] at hh
 have:=hh d (List.mem_of_getElem? h)
 rw [h2] at this;cases this
theorem Ints.one {w:World} {v:Value} {l:List Int} (h:Ints 1 w v l):∃ a cap,v=.slice a l.length cap∧l.length≤cap∧cap≤maxLen ∧
  ∀ i,i<l.length→∃ x b off,l[i]?=some x∧a=some ⟨b,off,none⟩∧b<w.heap.size∧w.cell? ⟨b,off+i,none⟩=some (.int .i64 x):=by
 obtain⟨a,len,cap,rfl,hl,h1,h2,h3⟩:=h.open_
 obtain rfl:l.length=len:=by omega
 refine⟨a,cap,rfl,h1,h2,fun i hi=>?_⟩
 obtain⟨b,off,ha,hb,hc⟩:=h3 i hi
 obtain⟨x,hx,hcell⟩:=hc 0 oM
 simp only [Nat.mul_one,Nat.add_zero] at hx hcell
 exact⟨x,b,off,hx,ha,hb,hcell⟩
end Go.G8
namespace Go.Proofs.YtkpmbocbbgocbaaGreat
open Go.RowKit Go.G8
theorem sRowOk_c (w:World) (s0_0:Value) (l0_0:List Int) (h0_0:Ints 1 w s0_0 l0_0):Calls Tryz.prog 325 #[s0_0] w (RetV w (.bool (rowOk l0_0))):=by
 obtain⟨a,cap,rfl,hcap,hm,ha⟩:=h0_0.one
 have HA:=Lib.hid ha
 clear ha
 unfold maxLen at hm
 by_cases h48:l0_0.length≤48
 ·
  go_enter Tryz.func325,Tryz.ntmps325
  go_wp2
  go_loopw [3] (fun i wr=>∃ k:Nat,k≤l0_0.length∧i=.int .i64 k∧Ext w wr∧Hid ((l0_0.take k).all (fun x=>inb x 0 1000000000)=true)) (fun i _=>l0_0.length - (intOf i).toNat)
  case atStart=>exact⟨0,Nat.zero_le _,rfl,Ext.refl _,Lib.hid (by simp)⟩
  case round =>
   obtain⟨k,hk,rfl,he,hp⟩:=hrel
   by_cases hlt:k<l0_0.length
   ·
    obtain⟨x,b1,o1,hx,rfl,_,c⟩:=HA.out k hlt
    have d0:=he.cell c
    have HX:=Lib.hid hx
    clear hx c
    cases hb:inb x 0 1000000000
    ·
     go_wp2_with (first|(go_at_call 303;refine (l1In_c _ _ _ _).mono ?_;rintro e w1 ⟨rfl,rfl⟩))
     go_ret
     exact⟨by rw [rowOk,all_no HX.out (p:=fun x=>inb x 0 1000000000) hb];simp,he⟩
    go_wp2_with (first|(go_at_call 303;refine (l1In_c _ _ _ _).mono ?_;rintro e w1 ⟨rfl,rfl⟩))
    go_roundw
    case rel=>exact⟨k+1,by omega,by go_num,he,Lib.hid (all_step HX.out hp.out hb)⟩
    case measure=>simp [intOf];omega
   obtain rfl:k=l0_0.length:=by omega
   go_wp2
   go_ret
   have hp':=hp.out
   rw [List.take_length] at hp'
   exact⟨by rw [rowOk,hp'];simp [h48],he⟩
 go_enter Tryz.func325,Tryz.ntmps325
 go_wp2
 go_ret
 exact⟨by rw [rowOk];simp [h48],Ext.refl _⟩
theorem rowOk_c (w:World) (s0_0:Value) (l0_0:List Int) (h0_0:Ints 1 w s0_0 l0_0):Calls Tryz.prog 276 #[s0_0] w (RetV w (.bool (rowOk l0_0))):=by
 obtain⟨a,cap,rfl,hcap,hm,ha⟩:=h0_0.one
 have HA:=Lib.hid ha
 clear ha
 unfold maxLen at hm
 by_cases h48:l0_0.length≤48
 ·
  go_enter Tryz.func276,Tryz.ntmps276
  go_wp2
  go_loopw [10] (fun i wr=>∃ k:Nat,k≤l0_0.length∧i=.int .i64 k∧Ext w wr∧Hid ((l0_0.take k).all (fun x=>inb x 0 1000000000)=true)) (fun i _=>l0_0.length - (intOf i).toNat)
  case atStart=>exact⟨0,Nat.zero_le _,rfl,Ext.refl _,Lib.hid (by simp)⟩
  case round =>
   obtain⟨k,hk,rfl,he,hp⟩:=hrel
   by_cases hlt:k<l0_0.length
   ·
    obtain⟨x,b1,o1,hx,rfl,_,c⟩:=HA.out k hlt
    have d0:=he.cell c
    have HX:=Lib.hid hx
    clear hx c
    cases hb:inb x 0 1000000000
    ·
     go_wp2_with (first|(go_at_call 176;refine (between_c _ _ _ _).mono ?_;rintro e w1 ⟨rfl,rfl⟩))
     go_ret
     exact⟨by rw [rowOk,all_no HX.out (p:=fun x=>inb x 0 1000000000) hb];simp,he⟩
    go_wp2_with (first|(go_at_call 176;refine (between_c _ _ _ _).mono ?_;rintro e w1 ⟨rfl,rfl⟩))
    go_roundw
    case rel=>exact⟨k+1,by omega,by go_num,he,Lib.hid (all_step HX.out hp.out hb)⟩
    case measure=>simp [intOf];omega
   obtain rfl:k=l0_0.length:=by omega
   go_wp2
   go_ret
   have hp':=hp.out
   rw [List.take_length] at hp'
   exact⟨by rw [rowOk,hp'];simp [h48],he⟩
 go_enter Tryz.func276,Tryz.ntmps276
 go_wp2
 go_ret
 exact⟨by rw [rowOk];simp [h48],Ext.refl _⟩
theorem l3Has_c (w:World) (s0_0:Value) (l0_0:List (List Int)) (s0_1:Value) (l0_1:List DWrite) (c1_0:Int) (h0_0:Nest 0 w s0_0 (nestInt64S l0_0)) (h0_1:Nest 1 w s0_1 (nestWrite l0_1)) :
  Calls Tryz.prog 387 #[.agg #[s0_0,s0_1],.int .i64 c1_0] w (RetV w (.bool (inb c1_0 0 ((⟨l0_0,l0_1⟩:DDisk).Kept.length - 1)))):=by
 obtain⟨a0,cap0,rfl,hc0,hm0,-⟩:=h0_0.open_
 obtain⟨a1,n1,c1,rfl⟩:=h0_1.shape
 unfold maxLen at hm0
 have hl:(nestInt64S l0_0).length=l0_0.length:=by simp [nestInt64S]
 rw [hl] at hc0 ⊢
 clear hl
 go_enter Tryz.func387,Tryz.ntmps387
 go_wp2_with (first|(go_at_call 303;refine (l1In_c _ _ _ _  ).mono ?_;rintro e wa ⟨rfl,rfl⟩))
 go_ret
 refine⟨rfl,?_⟩
 exact xT
theorem sectorOk_c (w:World) (s0_0:Value) (l0_0:List (List Int)) (s0_1:Value) (l0_1:List DWrite) (c1_0:Int) (h0_0:Nest 0 w s0_0 (nestInt64S l0_0)) (h0_1:Nest 1 w s0_1 (nestWrite l0_1)) :
  Calls Tryz.prog 292 #[.agg #[s0_0,s0_1],.int .i64 c1_0] w (RetV w (.bool (inb c1_0 0 ((⟨l0_0,l0_1⟩:DDisk).Kept.length - 1)))):=by
 obtain⟨a0,cap0,rfl,hc0,hm0,-⟩:=h0_0.open_
 obtain⟨a1,n1,c1,rfl⟩:=h0_1.shape
 unfold maxLen at hm0
 have hl:(nestInt64S l0_0).length=l0_0.length:=by simp [nestInt64S]
 rw [hl] at hc0 ⊢
 clear hl
 go_enter Tryz.func292,Tryz.ntmps292
 go_wp2_with (first|(go_at_call 176;refine (between_c _ _ _ _  ).mono ?_;rintro e wa ⟨rfl,rfl⟩))
 go_ret
 refine⟨rfl,?_⟩
 exact xT
theorem nest_at {l:List (List Int)} {k:Nat} {r:NRow} (h:(nestInt64S l)[k]?=some r):l[k]?=some r.2:=by
 simp only [nestInt64S,List.getElem?_map,Option.map_eq_some_iff] at h
 obtain⟨x,hx,rfl⟩:=h
 exact hx
theorem nestW_at {l:List DWrite} {k:Nat} {r:NRow} (h:(nestWrite l)[k]?=some r):∃ d,l[k]?=some d∧r=([d.At],d.Row):=by
 simp only [nestWrite,List.getElem?_map,Option.map_eq_some_iff] at h
 obtain⟨x,hx,rfl⟩:=h
 exact⟨x,hx,rfl⟩
theorem Nest.rows {w:World} {v:Value} {l:List (List Int)} (h:Nest 0 w v (nestInt64S l)):∃ a cap,v=.slice a l.length cap∧l.length≤cap∧cap≤maxLen ∧
  ∀ i,i<l.length→∃ r b off sa sn sc,l[i]?=some r∧a=some ⟨b,off,none⟩∧b<w.heap.size∧w.cell? ⟨b,off+i,none⟩=some (.slice sa sn sc)∧Ints 1 w (.slice sa sn sc) r:=by
 obtain⟨a,cap,rfl,h1,h2,h3⟩:=h.open_
 have hl:(nestInt64S l).length=l.length:=by simp [nestInt64S]
 rw [hl] at h1 h3 ⊢
 refine⟨a,cap,rfl,h1,h2,fun i hi=>?_⟩
 obtain⟨r,b,off,s,hr,ha,hb,_,hc,hin⟩:=h3 i hi
 obtain⟨sa,sn,sc,rfl⟩:=hin.shape
 exact⟨r.2,b,off,sa,sn,sc,nest_at hr,ha,hb,by simpa using hc,hin⟩
theorem Nest.writes {w:World} {v:Value} {l:List DWrite} (h:Nest 1 w v (nestWrite l)):∃ a cap,v=.slice a l.length cap∧l.length≤cap∧cap≤maxLen ∧
  ∀ i,i<l.length→∃ d b off sa sn sc,l[i]?=some d∧a=some ⟨b,off,none⟩∧b<w.heap.size∧w.cell? ⟨b,off+i * 2,none⟩=some (.int .i64 d.At)∧w.cell? ⟨b,off+i * 2+1,none⟩=some (.slice sa sn sc)∧Ints 1 w (.slice sa sn sc) d.Row:=by
 obtain⟨a,cap,rfl,h1,h2,h3⟩:=h.open_
 have hl:(nestWrite l).length=l.length:=by simp [nestWrite]
 rw [hl] at h1 h3 ⊢
 refine⟨a,cap,rfl,h1,h2,fun i hi=>?_⟩
 obtain⟨r,b,off,s,hr,ha,hb,hci,hc,hin⟩:=h3 i hi
 obtain⟨d,hd,rfl⟩:=nestW_at hr
 obtain⟨sa,sn,sc,rfl⟩:=hin.shape
 have h0:=hci 0 d.At rfl
 simp only [Nat.add_zero,Nat.reduceAdd] at h0 hc
 exact⟨d,b,off,sa,sn,sc,hd,ha,hb,h0,hc,hin⟩
end Go.Proofs.YtkpmbocbbgocbaaGreat
namespace Go.G8
open Go.RowKit
def newDisk (n:Int):DDisk:=if inb n 1 40 then ⟨List.replicate n.toNat [],[]⟩ else ⟨[],[]⟩
theorem ncells_nil (n:Nat):ncells (nestInt64S (List.replicate n [])) (List.replicate n (.slice none 0 0))=List.replicate n (.slice none 0 0):=by
 induction n with
 | zero=>rfl
 | succ n ih =>
  simp only [List.replicate_succ,nestInt64S,ncells,List.map_cons,List.zip_cons_cons,List.flatMap_cons] at ih ⊢
  rw [ih]
  simp [ncell]
theorem OwnNs.nil (B:Nat) (e e1:TypeId) (n:Nat) (w:World):OwnNs B e e1 n w (.slice none 0 0) [] [] :=
 ⟨fun r h=>by simp at h,rfl,⟨0,by simp [ncells],.inl ⟨rfl,rfl⟩⟩,⟨fun i s r h=>by simp at h,fun i j s t k _ h=>by simp at h,fun i s k h=>by simp at h⟩⟩
theorem OwnNs.made (w:World) (e e1:TypeId) (n:Nat) (hn:n≤40):OwnNs w.heap.size e e1 0 (w.alloc (.cells (madeCells #[.slice none 0 0] n) e)) (.slice (some ⟨w.heap.size,0,none⟩) n n) (nestInt64S (List.replicate n [])) (List.replicate n (.slice none 0 0)):=by
 have hrep:∀ (i:Nat) (s:Value),(List.replicate n (Value.slice none 0 0))[i]?=some s→s=.slice none 0 0:=by
  intro i s h
  exact List.eq_of_mem_replicate (List.mem_of_getElem? h)
 have hft:∀ k,k ∈ feet [Value.slice none 0 0]→False:=by simp [feet,Value.ownBlock]
 refine⟨fun r h=>by simp [nestInt64S] at h;simp [h],by simp [nestInt64S],Own.of_blk (cap:=n) (Blk.new _ _ _) (Nat.le_refl _) (by simp [size_madeCells]) (by rw [ncells_nil];simp) (Nat.le_refl _) (by unfold maxLen;omega) ?_,⟨fun i s r h1 h2=>?_,fun i j s t k _ h1 h2 h3=>?_,fun i s k h1 h3=>?_⟩⟩
 ·
  rw [ncells_nil]
  intro j hj
  have hj':j<n:=by omega
  simp [madeCells,hj',Nat.mod_one]
 ·
  rw [hrep i s h1]
  have:r.2=[]:=by
   have:=List.mem_of_getElem? h2
   simp [nestInt64S] at this
   simp [this]
  rw [this]
  exact OwnI.nil _ _ _ _
 ·
  rw [hrep i s h1] at h3;exact (hft k h3).elim
 rw [hrep i s h1] at h3;exact (hft k h3).elim
theorem OwnNs.made1 (w:World) (o:Obj) (e e1:TypeId) (n:Nat) (hn:n≤40):OwnNs (w.heap.size+1) e e1 0 ((w.alloc o).alloc (.cells (madeCells #[.slice none 0 0] n) e)) (.slice (some ⟨w.heap.size+1,0,none⟩) n n) (nestInt64S (List.replicate n [])) (List.replicate n (.slice none 0 0)):=by
 have:=OwnNs.made (w.alloc o) e e1 n hn
 rwa [World.size_alloc] at this
end Go.G8
namespace Go.Proofs.YtkpmbocbbgocbaaGreat
open Go.RowKit Go.G8
def IsDisk (B:Nat) (w:World) (v:Value) (d:DDisk):Prop:=∃ t0 t1:Value,∃ ss0 ss1:List Value,v=.agg #[t0,t1]∧OwnNs B 62 2 0 w t0 (nestInt64S d.Kept) ss0∧OwnNs B 312 2 1 w t1 (nestWrite d.Wait) ss1∧(∀ k,k ∈ feet (t0 :: ss0)→k ∈ feet (t1 :: ss1)→False)
theorem sNewDisk_c (w:World) (n:Int):Calls Tryz.prog 275 #[.int .i64 n] w (Ret w fun v w'=>IsDisk w.heap.size w' v (newDisk n)):=by
 cases hb:inb n 1 40
 ·
  go_enter Tryz.func275,Tryz.ntmps275
  go_wp2_with (first|(go_at_call 303;refine (l1In_c _ _ _ _).mono ?_;rintro e w1 ⟨rfl,rfl⟩))
  refine bodyPost_ret (by simp [results,Tryz.results275,go_sem, *];try rfl) rfl ?_
  refine⟨_,rfl,xT,_,_,[],[],rfl,?_,?_,by simp [feet,Value.ownBlock]⟩
  ·
   rw [show newDisk n=⟨[],[]⟩ by simp [newDisk,hb]];exact OwnNs.nil _ _ _ _ _
  rw [show newDisk n=⟨[],[]⟩ by simp [newDisk,hb]];exact OwnNs.nil _ _ _ _ _
 obtain⟨h1,h2⟩:=inb_true.1 hb
 obtain⟨m,rfl⟩:=Int.eq_ofNat_of_zero_le (show 0≤n by omega)
 obtain⟨i0,hi,hz0,hz1,hz2⟩:=info_parts info_Int64S
 have hmk:=fun W=>run_make (P:=Tryz.prog) W 22 62 i0 _ Tryz.underlying22 hi hz0 .i64 .i64 m m oM oM (by rw [hz2];omega) oM
 simp only [Int.toNat_natCast] at hmk
 go_enter Tryz.func275,Tryz.ntmps275
 go_wp2_with (first|(go_at_call 303;refine (l1In_c _ _ _ _).mono ?_;rintro e w1 ⟨rfl,rfl⟩))
 clear hmk
 refine bodyPost_ret (by simp [results,Tryz.results275,go_sem, *];try rfl) rfl ?_
 refine⟨_,rfl,xT,_,_,List.replicate m (.slice none 0 0),[],rfl,?_,?_,by simp [feet,Value.ownBlock]⟩
 ·
  rw [show newDisk (m:Int)=⟨List.replicate m [],[]⟩ by simp [newDisk,hb]]
  exact (OwnNs.made1 w _ 62 2 m oM).mono oM
 rw [show newDisk (m:Int)=⟨List.replicate m [],[]⟩ by simp [newDisk,hb]];exact OwnNs.nil _ _ _ _ _
theorem sNewShelf_c (w:World):Calls Tryz.prog 174 #[] w (Ret w fun v w'=>IsDisk w.heap.size w' v (newDisk 8)):=by
 go_enter Tryz.func174,Tryz.ntmps174
 go_wp2_with fail
 refine (sNewDisk_c _ 8).mono ?_
 rintro e w1 ⟨_,rfl,hx1,t0,t1,ss0,ss1,rfl,g0,g1,hd⟩
 obtain⟨a0,n0,k0,rfl⟩:=g0.nest.shape
 obtain⟨a1,n1,k1,rfl⟩:=g1.nest.shape
 obtain⟨hc1,hf1⟩:=hx1.cells
 have hz1:=hx1.size
 simp only [World.size_alloc] at hc1 hf1 hz1 g0 g1
 have hy:w.heap.size<w1.heap.size:=by omega
 go_wp2
 refine bodyPost_ret (by simp [results,Tryz.results174,go_sem, *];try rfl) rfl ?_
 clear hc1 hf1
 refine⟨_,rfl,xT,_,_,ss0,ss1,rfl,(OwnNs.keep g0 chgT).mono (by simp),(OwnNs.keep g1 chgT).mono (by simp),hd⟩
theorem newDisk_c (w:World) (n:Int):Calls Tryz.prog 270 #[.int .i64 n] w (Ret w fun v w'=>IsDisk w.heap.size w' v (newDisk n)):=by
 cases hb:inb n 1 40
 ·
  go_enter Tryz.func270,Tryz.ntmps270
  go_wp2_with (first|(go_at_call 176;refine (between_c _ _ _ _).mono ?_;rintro e w1 ⟨rfl,rfl⟩))
  refine bodyPost_ret (by simp [results,Tryz.results270,go_sem, *];try rfl) rfl ?_
  refine⟨_,rfl,xT,_,_,[],[],rfl,?_,?_,by simp [feet,Value.ownBlock]⟩
  ·
   rw [show newDisk n=⟨[],[]⟩ by simp [newDisk,hb]];exact OwnNs.nil _ _ _ _ _
  rw [show newDisk n=⟨[],[]⟩ by simp [newDisk,hb]];exact OwnNs.nil _ _ _ _ _
 obtain⟨h1,h2⟩:=inb_true.1 hb
 obtain⟨m,rfl⟩:=Int.eq_ofNat_of_zero_le (show 0≤n by omega)
 obtain⟨i0,hi,hz0,hz1,hz2⟩:=info_parts info_Int64S
 have hmk:=fun W=>run_make (P:=Tryz.prog) W 22 62 i0 _ Tryz.underlying22 hi hz0 .i64 .i64 m m oM oM (by rw [hz2];omega) oM
 simp only [Int.toNat_natCast] at hmk
 go_enter Tryz.func270,Tryz.ntmps270
 go_wp2_with (first|(go_at_call 176;refine (between_c _ _ _ _).mono ?_;rintro e w1 ⟨rfl,rfl⟩))
 clear hmk
 refine bodyPost_ret (by simp [results,Tryz.results270,go_sem, *];try rfl) rfl ?_
 refine⟨_,rfl,xT,_,_,List.replicate m (.slice none 0 0),[],rfl,?_,?_,by simp [feet,Value.ownBlock]⟩
 ·
  rw [show newDisk (m:Int)=⟨List.replicate m [],[]⟩ by simp [newDisk,hb]]
  exact (OwnNs.made1 w _ 62 2 m oM).mono oM
 rw [show newDisk (m:Int)=⟨List.replicate m [],[]⟩ by simp [newDisk,hb]];exact OwnNs.nil _ _ _ _ _
theorem newShelf_c (w:World):Calls Tryz.prog 169 #[] w (Ret w fun v w'=>IsDisk w.heap.size w' v (newDisk 8)):=by
 go_enter Tryz.func169,Tryz.ntmps169
 go_wp2_with fail
 refine (newDisk_c _ 8).mono ?_
 rintro e w1 ⟨_,rfl,hx1,t0,t1,ss0,ss1,rfl,g0,g1,hd⟩
 obtain⟨a0,n0,k0,rfl⟩:=g0.nest.shape
 obtain⟨a1,n1,k1,rfl⟩:=g1.nest.shape
 obtain⟨hc1,hf1⟩:=hx1.cells
 have hz1:=hx1.size
 simp only [World.size_alloc] at hc1 hf1 hz1 g0 g1
 have hy:w.heap.size<w1.heap.size:=by omega
 go_wp2
 refine bodyPost_ret (by simp [results,Tryz.results169,go_sem, *];try rfl) rfl ?_
 clear hc1 hf1
 refine⟨_,rfl,xT,_,_,ss0,ss1,rfl,(OwnNs.keep g0 chgT).mono (by simp),(OwnNs.keep g1 chgT).mono (by simp),hd⟩
end Go.Proofs.YtkpmbocbbgocbaaGreat
