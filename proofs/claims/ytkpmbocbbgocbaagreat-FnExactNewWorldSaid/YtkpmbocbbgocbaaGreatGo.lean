/- HelpI DC DD DD2 DD3 OD. -/
import Derived.Test.YtkpmbocbbgocbaaGreatGb
import Derived.Test.YtkpmbocbbgocbaaGreatGa
import Derived.Test.YtkpmbocbbgocbaaGreatGj
import Derived.Test.YtkpmbocbbgocbaaGreatGf
import Derived.Test.YtkpmbocbbgocbaaGreatGe
set_option linter.unusedSimpArgs false
set_option linter.unusedVariables false
set_option maxHeartbeats 8000000
set_option maxRecDepth 100000
namespace Go.Proofs.YtkpmbocbbgocbaaGreat
open Go.RowKit Go.G8
theorem eqEntry_c (w:World) (x0 x1 x2 x3 x4 x5 x6 x7 x8:Int) :
  Calls Tryz.prog 340 #[.agg #[.int .i64 x0,.int .i64 x1,.int .i64 x2,.int .i64 x3,.int .i64 x4,.int .i64 x5,.int .i64 x6,.int .i64 x7,.int .i64 x8],.agg #[.int .i64 x0,.int .i64 x1,.int .i64 x2,.int .i64 x3,.int .i64 x4,.int .i64 x5,.int .i64 x6,.int .i64 x7,.int .i64 x8]] w (RetV w (.bool true)):=by
 go_enter Tryz.func340,Tryz.ntmps340
 go_wp2_with (first|(go_at_call 148;refine (eqOp_c _ _ _ _ _ _).mono ?_;rintro e w1 ⟨rfl,hx1⟩;have hz1:=hx1.size;obtain⟨hc1,hf1⟩:=hx1.cells;simp only [World.size_alloc,World.size_setCell] at hz1 hc1 hf1))
 repeat (go_quiet (fail);go_wp2_with (first|(go_at_call 148;refine (eqOp_c _ _ _ _ _ _).mono ?_;rintro e w1 ⟨rfl,hx1⟩;have hz1:=hx1.size;obtain⟨hc1,hf1⟩:=hx1.cells;simp only [World.size_alloc,World.size_setCell] at hz1 hc1 hf1)))
 go_ret
 exact⟨rfl,xT⟩
theorem eqEntryS_c (w:World) (va vb:Value) (xs:List Int) (ha:Ints 9 w va xs) (hb:Ints 9 w vb xs) :
  Calls Tryz.prog 246 #[va,vb] w (RetV w (.bool true)):=by
 obtain⟨a,len,ca,rfl,hl,hca,hm,ha'⟩:=ha.open_
 obtain⟨b,len',cb,rfl,hl',_,_,hb'⟩:=hb.open_
 obtain rfl:len=len':=by omega
 have HA:=Lib.hid ha';have HB:=Lib.hid hb'
 clear ha' hb' hl hl' ha hb
 unfold maxLen at hm
 go_enter Tryz.func246,Tryz.ntmps246
 go_wp2
 go_loopw [5] (fun i wr=>∃ k:Nat,k≤len∧i=.int .i64 k∧Ext w wr) (fun i _=>len - (intOf i).toNat)
 case atStart=>exact⟨0,Nat.zero_le _,rfl,Ext.refl _⟩
 case round =>
  obtain⟨k,hk,rfl,he⟩:=hrel
  by_cases hlt:k<len
  ·
   obtain⟨b1,o1,rfl,_,c1⟩:=HA.out k hlt
   obtain⟨b2,o2,rfl,_,c2⟩:=HB.out k hlt
   obtain⟨x0,hx0,c10⟩:=c1 0 oM
   obtain⟨x1,hx1,c11⟩:=c1 1 oM
   obtain⟨x2,hx2,c12⟩:=c1 2 oM
   obtain⟨x3,hx3,c13⟩:=c1 3 oM
   obtain⟨x4,hx4,c14⟩:=c1 4 oM
   obtain⟨x5,hx5,c15⟩:=c1 5 oM
   obtain⟨x6,hx6,c16⟩:=c1 6 oM
   obtain⟨x7,hx7,c17⟩:=c1 7 oM
   obtain⟨x8,hx8,c18⟩:=c1 8 oM
   obtain⟨y0,hy0,c20⟩:=c2 0 oM
   obtain⟨y1,hy1,c21⟩:=c2 1 oM
   obtain⟨y2,hy2,c22⟩:=c2 2 oM
   obtain⟨y3,hy3,c23⟩:=c2 3 oM
   obtain⟨y4,hy4,c24⟩:=c2 4 oM
   obtain⟨y5,hy5,c25⟩:=c2 5 oM
   obtain⟨y6,hy6,c26⟩:=c2 6 oM
   obtain⟨y7,hy7,c27⟩:=c2 7 oM
   obtain⟨y8,hy8,c28⟩:=c2 8 oM
   obtain rfl:x0=y0:=by rw [hx0] at hy0;exact Option.some.inj hy0
   obtain rfl:x1=y1:=by rw [hx1] at hy1;exact Option.some.inj hy1
   obtain rfl:x2=y2:=by rw [hx2] at hy2;exact Option.some.inj hy2
   obtain rfl:x3=y3:=by rw [hx3] at hy3;exact Option.some.inj hy3
   obtain rfl:x4=y4:=by rw [hx4] at hy4;exact Option.some.inj hy4
   obtain rfl:x5=y5:=by rw [hx5] at hy5;exact Option.some.inj hy5
   obtain rfl:x6=y6:=by rw [hx6] at hy6;exact Option.some.inj hy6
   obtain rfl:x7=y7:=by rw [hx7] at hy7;exact Option.some.inj hy7
   obtain rfl:x8=y8:=by rw [hx8] at hy8;exact Option.some.inj hy8
   have d0:=he.cell c10;have e0:=he.cell c20
   have d1:=he.cell c11;have e1:=he.cell c21
   have d2:=he.cell c12;have e2:=he.cell c22
   have d3:=he.cell c13;have e3:=he.cell c23
   have d4:=he.cell c14;have e4:=he.cell c24
   have d5:=he.cell c15;have e5:=he.cell c25
   have d6:=he.cell c16;have e6:=he.cell c26
   have d7:=he.cell c17;have e7:=he.cell c27
   have d8:=he.cell c18;have e8:=he.cell c28
   simp only [Nat.add_zero] at d0 e0
   clear c1 c2 c10 c20 hx0 hy0 c11 c21 hx1 hy1 c12 c22 hx2 hy2 c13 c23 hx3 hy3 c14 c24 hx4 hy4 c15 c25 hx5 hy5 c16 c26 hx6 hy6 c17 c27 hx7 hy7 c18 c28 hx8 hy8
   go_wp2
   go_region_held3 (fun w'=>Ext wr w'∧w'.cell? ⟨b1,o1+k * 9,none⟩=some (.int .i64 x0)∧w'.cell? ⟨b1,o1+k * 9+1,none⟩=some (.int .i64 x1)∧w'.cell? ⟨b1,o1+k * 9+2,none⟩=some (.int .i64 x2)∧w'.cell? ⟨b1,o1+k * 9+3,none⟩=some (.int .i64 x3)∧w'.cell? ⟨b1,o1+k * 9+4,none⟩=some (.int .i64 x4)∧w'.cell? ⟨b1,o1+k * 9+5,none⟩=some (.int .i64 x5)∧w'.cell? ⟨b1,o1+k * 9+6,none⟩=some (.int .i64 x6)∧w'.cell? ⟨b1,o1+k * 9+7,none⟩=some (.int .i64 x7)∧w'.cell? ⟨b1,o1+k * 9+8,none⟩=some (.int .i64 x8)∧w'.cell? ⟨b2,o2+k * 9,none⟩=some (.int .i64 x0)∧w'.cell? ⟨b2,o2+k * 9+1,none⟩=some (.int .i64 x1)∧w'.cell? ⟨b2,o2+k * 9+2,none⟩=some (.int .i64 x2)∧w'.cell? ⟨b2,o2+k * 9+3,none⟩=some (.int .i64 x3)∧w'.cell? ⟨b2,o2+k * 9+4,none⟩=some (.int .i64 x4)∧w'.cell? ⟨b2,o2+k * 9+5,none⟩=some (.int .i64 x5)∧w'.cell? ⟨b2,o2+k * 9+6,none⟩=some (.int .i64 x6)∧w'.cell? ⟨b2,o2+k * 9+7,none⟩=some (.int .i64 x7)∧w'.cell? ⟨b2,o2+k * 9+8,none⟩=some (.int .i64 x8)) (first|exact⟨Ext.drew (Ext.refl _),d0,d1,d2,d3,d4,d5,d6,d7,d8,e0,e1,e2,e3,e4,e5,e6,e7,e8⟩|exact held_of (S:=fun w'=>Ext wr w'∧w'.cell? ⟨b1,o1+k * 9,none⟩=some (.int .i64 x0)∧w'.cell? ⟨b1,o1+k * 9+1,none⟩=some (.int .i64 x1)∧w'.cell? ⟨b1,o1+k * 9+2,none⟩=some (.int .i64 x2)∧w'.cell? ⟨b1,o1+k * 9+3,none⟩=some (.int .i64 x3)∧w'.cell? ⟨b1,o1+k * 9+4,none⟩=some (.int .i64 x4)∧w'.cell? ⟨b1,o1+k * 9+5,none⟩=some (.int .i64 x5)∧w'.cell? ⟨b1,o1+k * 9+6,none⟩=some (.int .i64 x6)∧w'.cell? ⟨b1,o1+k * 9+7,none⟩=some (.int .i64 x7)∧w'.cell? ⟨b1,o1+k * 9+8,none⟩=some (.int .i64 x8)∧w'.cell? ⟨b2,o2+k * 9,none⟩=some (.int .i64 x0)∧w'.cell? ⟨b2,o2+k * 9+1,none⟩=some (.int .i64 x1)∧w'.cell? ⟨b2,o2+k * 9+2,none⟩=some (.int .i64 x2)∧w'.cell? ⟨b2,o2+k * 9+3,none⟩=some (.int .i64 x3)∧w'.cell? ⟨b2,o2+k * 9+4,none⟩=some (.int .i64 x4)∧w'.cell? ⟨b2,o2+k * 9+5,none⟩=some (.int .i64 x5)∧w'.cell? ⟨b2,o2+k * 9+6,none⟩=some (.int .i64 x6)∧w'.cell? ⟨b2,o2+k * 9+7,none⟩=some (.int .i64 x7)∧w'.cell? ⟨b2,o2+k * 9+8,none⟩=some (.int .i64 x8)) (by assumption) hx (fun a b h x=>⟨h.1.trans x,(h.1.trans x).cell d0,(h.1.trans x).cell d1,(h.1.trans x).cell d2,(h.1.trans x).cell d3,(h.1.trans x).cell d4,(h.1.trans x).cell d5,(h.1.trans x).cell d6,(h.1.trans x).cell d7,(h.1.trans x).cell d8,(h.1.trans x).cell e0,(h.1.trans x).cell e1,(h.1.trans x).cell e2,(h.1.trans x).cell e3,(h.1.trans x).cell e4,(h.1.trans x).cell e5,(h.1.trans x).cell e6,(h.1.trans x).cell e7,(h.1.trans x).cell e8⟩)) ((go_at_call 340;refine (eqEntry_c _ _ _ _ _ _ _ _ _ _).mono ?_;rintro e w' ⟨rfl,hx⟩))
   go_wp2
   go_roundw
   case rel=>exact⟨k+1,by omega,by go_num,he.trans (And.left ‹_›)⟩
   case measure=>simp [intOf];omega
  go_wp2
  go_ret
  exact⟨rfl,he⟩
theorem markEntryS_c (w:World) (B:Nat) (v:Value) (xs:List Int) (L:Nat) (hL:xs.length=L * 9) (q:Int) (h:OwnI B 281 9 w v xs) (h0:0≤q) (h1:q+(L * 9:Nat)≤4611686018427387904) :
  Calls Tryz.prog 258 #[v,.int .i64 q] w (RetM w (feet [v]) (.int .i64 (q+(L * 9:Nat))) fun w'=>OwnI B 281 9 w' v (run q (L * 9))):=by
 obtain⟨a,len,ca,rfl,hl,hca,hm,hop⟩:=Own.open_ h
 rw [List.length_map] at hl
 obtain rfl:L=len:=by omega
 unfold maxLen at hm
 rcases hop with h00|⟨g,cur0,rfl,hB,hb0,hs0,-⟩
 ·
  subst h00
  have hfin:OwnI B 281 9 w (.slice a 0 ca) (run q (0 * 9)):=by
   refine Own.empty h ?_ _ ?_
   ·
    exact List.eq_nil_of_length_eq_zero (by simpa using hL)
   simp [run]
  have HF:=Lib.hid hfin
  clear hfin h hL hl
  have hq:q+((0 * 9:Nat):Int)=q:=by simp
  rw [hq]
  clear hq
  go_enter Tryz.func258,Tryz.ntmps258
  go_wp2
  go_loopw [1,5] (fun kk i wr=>kk=.int .i64 q∧i=.int .i64 0∧wr=w) (fun _ _ _=>0)
  case atStart=>exact⟨rfl,rfl,rfl⟩
  case round =>
   obtain⟨rfl,rfl,rfl⟩:=hrel
   go_wp2
   go_ret
   exact⟨rfl,Upd.refl _ _,HF.out⟩
 have HS:=Lib.hid hs0
 have HC:=Lib.hid (show L * 9≤ca * 9 by have:=Nat.mul_le_mul_right 9 hca;omega)
 clear hs0 hL hl h
 go_enter Tryz.func258,Tryz.ntmps258
 go_wp2
 go_loopw [1,5] (fun kk i wr=>∃ k:Nat,k≤L∧i=.int .i64 k∧(∃ q':Int,q'=q+(k * 9:Nat)∧kk=.int .i64 q')∧Upd w wr [g]∧∃ cur,Blk wr g 281 cur∧cur.size=ca * 9∧Pre cur (k * 9) ((run q (L * 9)).map (.int .i64))) (fun _ i _=>L - (intOf i).toNat)
 case atStart=>exact⟨0,Nat.zero_le _,rfl,⟨q,by simp,rfl⟩,Upd.refl _ _,cur0,hb0,HS.out,by simpa using Pre.zero _ _⟩
 case round =>
  obtain⟨k,hk,rfl,⟨q',hq',rfl⟩,he,cur,hblk,hsz,hpre⟩:=hrel
  clear HS
  have HS:=Lib.hid hsz
  have HQ:=Lib.hid hq'
  by_cases hlt:k<L
  ·
   have hq1:0≤q'∧q'+9≤4611686018427387904:=by have:=mul_lt_of hlt 9;omega
   obtain⟨hq1,hq2⟩:=hq1
   clear hsz hq'
   obtain⟨z0,g0⟩:∃ z,wr.cell? ⟨g,k * 9,none⟩=some z:=⟨_,by rw [hblk.cell];exact Array.getElem?_eq_getElem (by have:=HS.out;have:=HC.out;have:=mul_lt_of hlt 9;omega)⟩
   have f0:=hblk.frozen (k * 9)
   obtain⟨z1,g1⟩:∃ z,wr.cell? ⟨g,k * 9+1,none⟩=some z:=⟨_,by rw [hblk.cell];exact Array.getElem?_eq_getElem (by have:=HS.out;have:=HC.out;have:=mul_lt_of hlt 9;omega)⟩
   have f1:=hblk.frozen (k * 9+1)
   obtain⟨z2,g2⟩:∃ z,wr.cell? ⟨g,k * 9+2,none⟩=some z:=⟨_,by rw [hblk.cell];exact Array.getElem?_eq_getElem (by have:=HS.out;have:=HC.out;have:=mul_lt_of hlt 9;omega)⟩
   have f2:=hblk.frozen (k * 9+2)
   obtain⟨z3,g3⟩:∃ z,wr.cell? ⟨g,k * 9+3,none⟩=some z:=⟨_,by rw [hblk.cell];exact Array.getElem?_eq_getElem (by have:=HS.out;have:=HC.out;have:=mul_lt_of hlt 9;omega)⟩
   have f3:=hblk.frozen (k * 9+3)
   obtain⟨z4,g4⟩:∃ z,wr.cell? ⟨g,k * 9+4,none⟩=some z:=⟨_,by rw [hblk.cell];exact Array.getElem?_eq_getElem (by have:=HS.out;have:=HC.out;have:=mul_lt_of hlt 9;omega)⟩
   have f4:=hblk.frozen (k * 9+4)
   obtain⟨z5,g5⟩:∃ z,wr.cell? ⟨g,k * 9+5,none⟩=some z:=⟨_,by rw [hblk.cell];exact Array.getElem?_eq_getElem (by have:=HS.out;have:=HC.out;have:=mul_lt_of hlt 9;omega)⟩
   have f5:=hblk.frozen (k * 9+5)
   obtain⟨z6,g6⟩:∃ z,wr.cell? ⟨g,k * 9+6,none⟩=some z:=⟨_,by rw [hblk.cell];exact Array.getElem?_eq_getElem (by have:=HS.out;have:=HC.out;have:=mul_lt_of hlt 9;omega)⟩
   have f6:=hblk.frozen (k * 9+6)
   obtain⟨z7,g7⟩:∃ z,wr.cell? ⟨g,k * 9+7,none⟩=some z:=⟨_,by rw [hblk.cell];exact Array.getElem?_eq_getElem (by have:=HS.out;have:=HC.out;have:=mul_lt_of hlt 9;omega)⟩
   have f7:=hblk.frozen (k * 9+7)
   obtain⟨z8,g8⟩:∃ z,wr.cell? ⟨g,k * 9+8,none⟩=some z:=⟨_,by rw [hblk.cell];exact Array.getElem?_eq_getElem (by have:=HS.out;have:=HC.out;have:=mul_lt_of hlt 9;omega)⟩
   have f8:=hblk.frozen (k * 9+8)
   go_wp2
   go_roundw
   case rel=>exact⟨k+1,by omega,by go_num,⟨_,by have:=HQ.out;omega,rfl⟩,(((((((((he.setCell (by simp) _).setCell (by simp) _).setCell (by simp) _).setCell (by simp) _).setCell (by simp) _).setCell (by simp) _).setCell (by simp) _).setCell (by simp) _).setCell (by simp) _),_,(((((((((hblk.set_ _ _).set_ _ _).set_ _ _).set_ _ _).set_ _ _).set_ _ _).set_ _ _).set_ _ _).set_ _ _),by simp;exact HS.out,((((((((((hpre.set (run_cell' (by have:=mul_lt_of hlt 9;omega) (by have:=HQ.out;omega)) (by have:=HS.out;have:=mul_lt_of hlt 9;have:=HC.out;omega)).set (run_cell' (by have:=mul_lt_of hlt 9;omega) (by have:=HQ.out;omega)) (by have:=HS.out;have:=mul_lt_of hlt 9;have:=HC.out;simp;omega)).set (run_cell' (by have:=mul_lt_of hlt 9;omega) (by have:=HQ.out;omega)) (by have:=HS.out;have:=mul_lt_of hlt 9;have:=HC.out;simp;omega)).set (run_cell' (by have:=mul_lt_of hlt 9;omega) (by have:=HQ.out;omega)) (by have:=HS.out;have:=mul_lt_of hlt 9;have:=HC.out;simp;omega)).set (run_cell' (by have:=mul_lt_of hlt 9;omega) (by have:=HQ.out;omega)) (by have:=HS.out;have:=mul_lt_of hlt 9;have:=HC.out;simp;omega)).set (run_cell' (by have:=mul_lt_of hlt 9;omega) (by have:=HQ.out;omega)) (by have:=HS.out;have:=mul_lt_of hlt 9;have:=HC.out;simp;omega)).set (run_cell' (by have:=mul_lt_of hlt 9;omega) (by have:=HQ.out;omega)) (by have:=HS.out;have:=mul_lt_of hlt 9;have:=HC.out;simp;omega)).set (run_cell' (by have:=mul_lt_of hlt 9;omega) (by have:=HQ.out;omega)) (by have:=HS.out;have:=mul_lt_of hlt 9;have:=HC.out;simp;omega)).set (run_cell' (by have:=mul_lt_of hlt 9;omega) (by have:=HQ.out;omega)) (by have:=HS.out;have:=mul_lt_of hlt 9;have:=HC.out;simp;omega))).cast oM⟩
   case measure=>simp [intOf];omega
  obtain rfl:k=L:=by omega
  clear hsz hq'
  go_wp2
  go_ret
  refine⟨congrArg (fun z=>Ending.returned (.int .i64 z)) HQ.out,he,Own.of_blk hblk hB HS.out (by simp [length_run]) hca (by unfold maxLen;omega) hpre⟩
end Go.Proofs.YtkpmbocbbgocbaaGreat
namespace Go.G8
open Go.RowKit
theorem Upd.setOne {a b:World} {g:Nat} (h:Upd a b [g]) (o:Nat) (u:Value):Upd a (b.setCell ⟨g,o,none⟩ u) [g]:=h.setCell (List.mem_singleton.2 rfl) u
theorem Upd.cell {a b:World} {fs:List Nat} (h:Upd a b fs) {k o:Nat} (hk:k<a.heap.size) (hn:k ∉ fs):b.cell? ⟨k,o,none⟩=a.cell? ⟨k,o,none⟩:=World.cell?_of_block (w:=a) (h.block k hk hn)
def Bytes (w:World) (v:Value):Prop:=∃ bs:List Int,Sl 1 w v (bs.map (.int .u8))∧∀ x,x ∈ bs→0≤x∧x≤255
theorem Bytes.ext {w w':World} {v:Value} (h:Bytes w v) (x:Ext w w'):Bytes w' v:=let ⟨bs,h,hb⟩:=h;⟨bs,h.ext x,hb⟩
end Go.G8
namespace Go.Proofs.YtkpmbocbbgocbaaGreat
open Go.RowKit Go.G8
def Cur (B:Nat) (w:World) (g:Nat):Prop:=∃ (a:Option Addr) (n k i:Nat) (h:Int),Blk w g 245 #[.slice a n k,.int .i64 i,.int .i64 h]∧B≤g∧i≤n∧n≤k∧k≤maxLen ∧
 ∀ j,j<n→∃ b off x,a=some ⟨b,off,none⟩∧b<B∧0≤x∧x≤255∧w.cell? ⟨b,off+j,none⟩=some (.int .u8 x)
theorem Cur.lt {B:Nat} {w:World} {g:Nat} (h:Cur B w g):B≤g∧g<w.heap.size:=let ⟨_,_,_,_,_,hk,hB,_⟩:=h;⟨hB,hk.lt⟩
theorem Cur.upd {B:Nat} {w w':World} {g:Nat} {fs:List Nat} (h:Cur B w g) (x:Upd w w' fs) (hg:g ∉ fs) (hB:∀ k,k ∈ fs→B≤k):Cur B w' g:=by
 obtain⟨a,n,k,i,e,hk,h0,h1,h2,h3,h4⟩:=h
 refine⟨a,n,k,i,e,hk.upd x hg,h0,h1,h2,h3,fun j hj=>?_⟩
 obtain⟨b,off,y,h5,h6,h7,h8,h9⟩:=h4 j hj
 have:=hk.lt
 exact⟨b,off,y,h5,h6,h7,h8,(x.cell oM (fun hm=>by have:=hB b hm;omega)).trans h9⟩
theorem Cur.ext {B:Nat} {w w':World} {g:Nat} (h:Cur B w g) (x:Ext w w'):Cur B w' g:=h.upd (x.upd []) (by simp) (by simp)
theorem Cur.set_ {B:Nat} {w:World} {g:Nat} (h:Cur B w g) {X:Nat} (hX:g<X) (o:Nat) (u:Value):Cur B (w.setCell ⟨X,o,none⟩ u) g :=
 h.upd ((Upd.refl w [X]).setOne o u) (by simp;omega) (fun k hk=>by have:=h.lt;simp at hk;omega)
theorem Cur.row {B:Nat} {w:World} {g:Nat} (h:Cur B w g) {X:Nat} (hX:g<X) (cs:Array Value):Cur B (w.setRow X cs) g :=
 h.upd (fs:=[X]) ⟨rfl,rfl,rfl,by rw [size_setRow];exact Nat.le_refl _,fun k _ hn=>heap_setRow_ne w cs (fun e=>hn (by simp [e]))⟩ (by simp;omega) (fun k hk=>by have:=h.lt;simp at hk;omega)
theorem Cur.of {B:Nat} {w w':World} {g n k i':Nat} {a:Option Addr} {h':Int} (X:Upd w w' [g]) (hg:g<w.heap.size) (K:Blk w' g 245 #[.slice a n k,.int .i64 i',.int .i64 h']) (h0:B≤g) (h1:i'≤n) (h2:n≤k) (h3:k≤9223372036854775807)
  (h4:∀ j,j<n→∃ b off x,a=some ⟨b,off,none⟩∧b<B∧0≤x∧x≤255∧w.cell? ⟨b,off+j,none⟩=some (.int .u8 x)):Cur B w' g:=by
 refine⟨a,n,k,i',h',K,h0,h1,h2,by unfold maxLen;omega,fun j hj=>?_⟩
 obtain⟨b,off,y,h5,h6,h7,h8,h9⟩:=h4 j hj
 exact⟨b,off,y,h5,h6,h7,h8,(X.cell oM (by simp;omega)).trans h9⟩
section
variable {B:Nat} {w:World} {g:Nat}
end
theorem jobsOk_nil:jobsOk []=true:=jobsOk_true (by simp [JobsOk])
end Go.Proofs.YtkpmbocbbgocbaaGreat
namespace Go.G8
open Go.RowKit
open Go.Proofs.YtkpmbocbbgocbaaGreat
theorem Ints.sl {n:Nat} {w:World} {v:Value} {xs:List Int} (h:Ints n w v xs):Sl n w v (xs.map (.int .i64)):=h
end Go.G8
