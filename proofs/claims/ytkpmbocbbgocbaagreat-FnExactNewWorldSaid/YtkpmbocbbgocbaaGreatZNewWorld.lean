/- The statement FnExactNewWorld: walk and row. -/
import Derived.Test.YtkpmbocbbgocbaaGreatGa
import Derived.Test.YtkpmbocbbgocbaaGreatB3
import Derived.Test.YtkpmbocbbgocbaaGreatN0
import Derived.Test.YtkpmbocbbgocbaaGreatN3
import Derived.Test.YtkpmbocbbgocbaaGreatN4
import Derived.Test.YtkpmbocbbgocbaaGreatN2
import Derived.Test.YtkpmbocbbgocbaaGreatB0
import Derived.Test.YtkpmbocbbgocbaaGreatB9
import Derived.Test.YtkpmbocbbgocbaaGreatGc
import Derived.Test.YtkpmbocbbgocbaaGreatB12
set_option linter.unusedSimpArgs false
set_option linter.unusedVariables false
set_option maxHeartbeats 40000000
set_option maxRecDepth 100000
namespace Go.Proofs.YtkpmbocbbgocbaaGreat
open Go.RowKit Go.G8
theorem law_NewWorld (w:World) (v:Value) (a:List DWant) (h0:RdWantS w v a) (u:Value) (b:List DWant) (h1:RdWantS w u b) :
  Calls Tryz.prog 7 #[v,u] w (RetV w (.bool true)):=by
 obtain⟨a0,n0,k0,rfl⟩:=h0.shape
 obtain⟨b0,m0,j0,rfl⟩:=h1.shape
 go_enter Tryz.func7,Tryz.ntmps7
 go_wp2_with fail
 refine (sz_WantS (h0.ext extT) (left:=1048576) oM oM).mono ?_
 rintro e w1 ⟨v1,rfl,hx,hv⟩
 have X1:Ext w w1:=Ext.trans extT hx;clear hx
 rcases hv with ⟨rfl,hq⟩|⟨rfl,hq⟩
 ·
  clear hq
  go_wp2_with fail
  go_ret
  exact⟨rfl,by exact extT⟩
 obtain⟨z1,hz⟩:∃ z,z=(1048576:Int) - (sznWantS a:Nat):=⟨_,rfl⟩
 rw [← hz]
 have hd1:decide (z1<0)=false:=by simp;omega
 have y1:0≤z1∧z1≤1048576:=by omega
 have s1:sznWantS a≤1048576:=by omega
 clear hz hq
 go_wp2_with fail
 refine (sz_WantS (h1.ext extT) (left:=z1) oM oM).mono ?_
 rintro e w2 ⟨v2,rfl,hx,hv⟩
 have X2:Ext w w2:=Ext.trans extT hx;clear hx
 rcases hv with ⟨rfl,hq⟩|⟨rfl,hq⟩
 ·
  clear hq
  go_wp2_with fail
  go_ret
  exact⟨rfl,by exact extT⟩
 obtain⟨z2,hz⟩:∃ z,z=(z1:Int) - (sznWantS b:Nat):=⟨_,rfl⟩
 rw [← hz]
 have hd2:decide (z2<0)=false:=by simp;omega
 have y2:0≤z2∧z2≤1048576:=by omega
 have s2:sznWantS b≤1048576:=by omega
 clear hz hq
 have e1:a.length≤1048576:=s1
 have e2:b.length≤1048576:=s2
 go_wp2_with fail
 refine (to_WantS (h0.ext extT) s1).mono ?_
 rintro e w3 ⟨u3,rfl,hx3,F3,o3⟩
 have X3:Ext w w3:=Ext.trans extT hx3
 go_wp2_with fail
 refine (to_WantS (h1.ext extT) s2).mono ?_
 rintro e w4 ⟨u4,rfl,hx4,F4,o4⟩
 have X4:Ext w w4:=Ext.trans extT hx4
 go_wp2_with fail
 refine (sNewWorld_k (o3.rd.ext extT) (o4.rd.ext extT) e1 e2).mono ?_
 rintro e w5 ⟨_,rfl,hx,M',rfl,F5,o5⟩
 have X5:Ext w w5:=Ext.trans extT hx
 clear hx hx3 hx4 o3 o4
 obtain⟨M,rfl,hM,oneM⟩:=o5.rd.cells
 have f5:∀ i,i ∈ F5→i<w5.heap.size:=fun i hi=>(o5.low i hi).2
 have f5:=Lib.hid f5
 obtain⟨r,hr⟩:∃ r,r=(todoOk a && todoOk b):=⟨_,rfl⟩
 rw [← hr];have HR:=Lib.hid hr;clear hr
 as_aux_lemma =>
 go_wp2_with (first|(refine wpList_store_part rfl 106 _ _ rfl w5.heap.size 0 (.agg M.toArray) M (by rfl) (by rfl) rfl 106 [] [Value.slice none 0 0,Value.slice none 0 0,Value.slice none 0 0,Value.slice none 0 0,Value.int .i64 0,Value.int .i64 0,Value.int .i64 0,Value.slice none 0 0,Value.int .i64 0,Value.int .i64 0,Value.int .i64 0,Value.slice none 0 0,Value.bool false,Value.int .i64 0,Value.int .i64 0,Value.slice none 0 0,Value.slice none 0 0,Value.int .i64 0,Value.slice none 0 0,Value.slice none 0 0,Value.slice none 0 0,Value.int .i64 0,Value.int .i64 0,Value.slice none 0 0,Value.slice none 0 0,Value.int .i64 0,Value.int .i64 0,Value.int .i64 0,Value.int .i64 0,Value.int .i64 0,Value.int .i64 0,Value.int .i64 0,Value.int .i64 0,Value.int .i64 0,Value.int .i64 0,Value.int .i64 0,Value.int .i64 0,Value.int .i64 0,Value.slice none 0 0,Value.bool false,Value.int .i64 0,Value.int .i64 0,Value.int .i64 0,Value.int .i64 0,Value.int .i64 0,Value.int .i64 0,Value.int .i64 0,Value.int .i64 0,Value.int .i64 0,Value.int .i64 0,Value.int .i64 0,Value.int .i64 0,Value.int .i64 0,Value.slice none 0 0,Value.bool false,Value.int .i64 0,Value.int .i64 0,Value.int .i64 0,Value.int .i64 0,Value.int .i64 0,Value.int .i64 0,Value.int .i64 0,Value.slice none 0 0,Value.slice none 0 0,Value.int .i64 0,Value.int .i64 0,Value.slice none 0 0,Value.slice none 0 0,Value.int .i64 0,Value.slice none 0 0,Value.slice none 0 0,Value.slice none 0 0,Value.slice none 0 0] [] (Bk.cast (Bk.new w5 106 [Value.slice none 0 0,Value.slice none 0 0,Value.slice none 0 0,Value.slice none 0 0,Value.int .i64 0,Value.int .i64 0,Value.int .i64 0,Value.slice none 0 0,Value.int .i64 0,Value.int .i64 0,Value.int .i64 0,Value.slice none 0 0,Value.bool false,Value.int .i64 0,Value.int .i64 0,Value.slice none 0 0,Value.slice none 0 0,Value.int .i64 0,Value.slice none 0 0,Value.slice none 0 0,Value.slice none 0 0,Value.int .i64 0,Value.int .i64 0,Value.slice none 0 0,Value.slice none 0 0,Value.int .i64 0,Value.int .i64 0,Value.int .i64 0,Value.int .i64 0,Value.int .i64 0,Value.int .i64 0,Value.int .i64 0,Value.int .i64 0,Value.int .i64 0,Value.int .i64 0,Value.int .i64 0,Value.int .i64 0,Value.int .i64 0,Value.slice none 0 0,Value.bool false,Value.int .i64 0,Value.int .i64 0,Value.int .i64 0,Value.int .i64 0,Value.int .i64 0,Value.int .i64 0,Value.int .i64 0,Value.int .i64 0,Value.int .i64 0,Value.int .i64 0,Value.int .i64 0,Value.int .i64 0,Value.int .i64 0,Value.slice none 0 0,Value.bool false,Value.int .i64 0,Value.int .i64 0,Value.int .i64 0,Value.int .i64 0,Value.int .i64 0,Value.int .i64 0,Value.int .i64 0,Value.slice none 0 0,Value.slice none 0 0,Value.int .i64 0,Value.int .i64 0,Value.slice none 0 0,Value.slice none 0 0,Value.int .i64 0,Value.slice none 0 0,Value.slice none 0 0,Value.slice none 0 0,Value.slice none 0 0]) (by simp)) rfl (by rw [hM];rfl) (by rw [hM];kernel_rfl) oneM ?_;intro V6 hV6 B6;have X6:Ext w V6:=Ext.ofSet hV6 extT (by have:=X5.size;omega);have p5:=o5.keep (Chg.ofSet hV6 (Chg.ext (Chg.refl _ _) ((Ext.refl _).alloc _)) (Or.inr (Nat.le_refl _)));have RM:V6.rangeAt w5.heap.size 0 M:=Bk.range (A:=[]) (C:=[]) (Bk.cast B6 (by simp)) rfl;have Y6:Ext w5 V6:=Ext.ofSet hV6 extT (Nat.le_refl _);have l6:=B6.lt;clear hV6 B6 o5))
 refine (to_WantS (h0.ext extT) s1).mono ?_
 rintro e w7 ⟨u7,rfl,hx7,F7,o7⟩
 have X7:Ext w w7:=Ext.trans extT hx7
 have RM:=rangeAt_ext RM (Ext.trans extT hx7:Ext V6 w7);have p5:=p5.keep (Chg.ext (Chg.refl _ _) (Ext.trans extT hx7:Ext V6 w7))
 have f7:=Lib.hid o7.low;have l7:=hx7.size
 clear hx7
 go_wp2_with fail
 refine (to_WantS (h1.ext extT) s2).mono ?_
 rintro e w8 ⟨u8,rfl,hx8,F8,o8⟩
 have X8:Ext w w8:=Ext.trans extT hx8
 have Y8:Ext w7 w8:=Ext.trans extT hx8
 have RM:=rangeAt_ext RM Y8;have p5:=p5.keep (Chg.ext (Chg.refl _ _) Y8);have f8:=Lib.hid o8.low;have l8:=Y8.size;have o7:=o7.keep (Chg.ext (Chg.refl _ _) Y8);clear hx8 Y8
 go_wp2_with fail
 refine (newWorld_k (o7.rd.ext extT) (o8.rd.ext extT) e1 e2).mono ?_
 rintro e w9 ⟨_,rfl,hx,Q',rfl,F9,o9⟩
 rw [← HR.out]
 have Y9:Ext w8 w9:=Ext.trans extT hx
 have X9:Ext w w9:=Ext.trans extT hx
 have RM:=rangeAt_ext RM Y9;have p5:=p5.keep (Chg.ext (Chg.refl _ _) Y9);have f9:=Lib.hid o9.low;have l9:=Y9.size;have o7:=o7.keep (Chg.ext (Chg.refl _ _) Y9);have o8:=o8.keep (Chg.ext (Chg.refl _ _) Y9)
 clear hx Y9
 obtain⟨Q,rfl,hQ,oneQ⟩:=o9.rd.cells
 as_aux_lemma =>
 go_wp2_with (first|(refine wpList_load_mid rfl 106 _ rfl (w9.heap.size) 0 (by rfl) Q _ (rangeAt_ext RQ extT) Tryz.underlying106 rfl (by rw [hQ];kernel_rfl) ?_)|(refine wpList_load_mid rfl 106 _ rfl (w5.heap.size) 0 (by rfl) M _ (rangeAt_ext RM extT) Tryz.underlying106 rfl (by rw [hM];kernel_rfl) ?_)|(refine wpList_store_part rfl 106 _ _ rfl w9.heap.size 0 (.agg Q.toArray) Q (by rfl) (by rfl) rfl 106 [] [Value.slice none 0 0,Value.slice none 0 0,Value.slice none 0 0,Value.slice none 0 0,Value.int .i64 0,Value.int .i64 0,Value.int .i64 0,Value.slice none 0 0,Value.int .i64 0,Value.int .i64 0,Value.int .i64 0,Value.slice none 0 0,Value.bool false,Value.int .i64 0,Value.int .i64 0,Value.slice none 0 0,Value.slice none 0 0,Value.int .i64 0,Value.slice none 0 0,Value.slice none 0 0,Value.slice none 0 0,Value.int .i64 0,Value.int .i64 0,Value.slice none 0 0,Value.slice none 0 0,Value.int .i64 0,Value.int .i64 0,Value.int .i64 0,Value.int .i64 0,Value.int .i64 0,Value.int .i64 0,Value.int .i64 0,Value.int .i64 0,Value.int .i64 0,Value.int .i64 0,Value.int .i64 0,Value.int .i64 0,Value.int .i64 0,Value.slice none 0 0,Value.bool false,Value.int .i64 0,Value.int .i64 0,Value.int .i64 0,Value.int .i64 0,Value.int .i64 0,Value.int .i64 0,Value.int .i64 0,Value.int .i64 0,Value.int .i64 0,Value.int .i64 0,Value.int .i64 0,Value.int .i64 0,Value.int .i64 0,Value.slice none 0 0,Value.bool false,Value.int .i64 0,Value.int .i64 0,Value.int .i64 0,Value.int .i64 0,Value.int .i64 0,Value.int .i64 0,Value.int .i64 0,Value.slice none 0 0,Value.slice none 0 0,Value.int .i64 0,Value.int .i64 0,Value.slice none 0 0,Value.slice none 0 0,Value.int .i64 0,Value.slice none 0 0,Value.slice none 0 0,Value.slice none 0 0,Value.slice none 0 0] [] (Bk.cast (Bk.new w9 106 [Value.slice none 0 0,Value.slice none 0 0,Value.slice none 0 0,Value.slice none 0 0,Value.int .i64 0,Value.int .i64 0,Value.int .i64 0,Value.slice none 0 0,Value.int .i64 0,Value.int .i64 0,Value.int .i64 0,Value.slice none 0 0,Value.bool false,Value.int .i64 0,Value.int .i64 0,Value.slice none 0 0,Value.slice none 0 0,Value.int .i64 0,Value.slice none 0 0,Value.slice none 0 0,Value.slice none 0 0,Value.int .i64 0,Value.int .i64 0,Value.slice none 0 0,Value.slice none 0 0,Value.int .i64 0,Value.int .i64 0,Value.int .i64 0,Value.int .i64 0,Value.int .i64 0,Value.int .i64 0,Value.int .i64 0,Value.int .i64 0,Value.int .i64 0,Value.int .i64 0,Value.int .i64 0,Value.int .i64 0,Value.int .i64 0,Value.slice none 0 0,Value.bool false,Value.int .i64 0,Value.int .i64 0,Value.int .i64 0,Value.int .i64 0,Value.int .i64 0,Value.int .i64 0,Value.int .i64 0,Value.int .i64 0,Value.int .i64 0,Value.int .i64 0,Value.int .i64 0,Value.int .i64 0,Value.int .i64 0,Value.slice none 0 0,Value.bool false,Value.int .i64 0,Value.int .i64 0,Value.int .i64 0,Value.int .i64 0,Value.int .i64 0,Value.int .i64 0,Value.int .i64 0,Value.slice none 0 0,Value.slice none 0 0,Value.int .i64 0,Value.int .i64 0,Value.slice none 0 0,Value.slice none 0 0,Value.int .i64 0,Value.slice none 0 0,Value.slice none 0 0,Value.slice none 0 0,Value.slice none 0 0]) (by simp)) rfl (by rw [hQ];rfl) (by rw [hQ];kernel_rfl) oneQ ?_;intro V10 hV10 B10;have X10:Ext w V10:=Ext.ofSet hV10 extT (by have:=X9.size;omega);have p9:=o9.keep (Chg.ofSet hV10 (Chg.ext (Chg.refl _ _) ((Ext.refl _).alloc _)) (Or.inr (Nat.le_refl _)));have RQ:V10.rangeAt w9.heap.size 0 Q:=Bk.range (A:=[]) (C:=[]) (Bk.cast B10 (by simp)) rfl;have Y10:Ext w9 V10:=Ext.ofSet hV10 extT (Nat.le_refl _);have RM:=rangeAt_ext RM Y10;have p5:=p5.keep (Chg.ext (Chg.refl _ _) Y10);have l10:=B10.lt;have o7:=o7.keep (Chg.ext (Chg.refl _ _) Y10);have o8:=o8.keep (Chg.ext (Chg.refl _ _) Y10);clear Y10;clear hV10 B10 o9))
 refine (eq_World (p9.rd.ext extT) (p5.rd.ext extT)).mono ?_
 rintro e v1 ⟨rfl,hx⟩
 have X11:Ext w v1:=Ext.trans extT hx
 have Y11:Ext V10 v1:=Ext.trans extT hx
 have l11:=Y11.size
 have hr1:(r != r)=false:=by simp
 as_aux_lemma =>
 have RM:=rangeAt_ext RM Y11;have RQ:=rangeAt_ext RQ Y11;have p5:=p5.keep (Chg.ext (Chg.refl _ _) Y11);have p9:=p9.keep (Chg.ext (Chg.refl _ _) Y11);have o7:=o7.keep (Chg.ext (Chg.refl _ _) Y11);have o8:=o8.keep (Chg.ext (Chg.refl _ _) Y11)
 go_wp2_with fail
 refine (to_WantS (h0.ext (Ext.trans X11 extT)) s1).mono ?_
 rintro e y12 ⟨u12,rfl,hx12,G12,t12⟩
 have Z12:Ext v1 y12:=Ext.trans extT hx12
 go_wp2_with fail
 refine (eq_WantS (o7.rd.ext extT) (t12.rd.ext extT)).mono ?_
 rintro e x12 ⟨rfl,hx⟩
 have ZZ12:Ext v1 x12:=Ext.trans extT hx
 clear hx hx12 t12
 go_wp2_with fail
 refine (to_WantS (h1.ext (Ext.trans X11 extT)) s2).mono ?_
 rintro e y13 ⟨u13,rfl,hx13,G13,t13⟩
 have Z13:Ext v1 y13:=Ext.trans extT hx13
 go_wp2_with fail
 refine (eq_WantS (o8.rd.ext extT) (t13.rd.ext extT)).mono ?_
 rintro e x13 ⟨rfl,hx⟩
 have ZZ13:Ext v1 x13:=Ext.trans extT hx
 clear hx hx13 t13
 have X13:Ext w x13:=X11.trans ZZ13
 have RM:=rangeAt_ext RM ZZ13;have RQ:=rangeAt_ext RQ ZZ13;have p5:=p5.keep (Chg.ext (Chg.refl _ _) ZZ13);have p9:=p9.keep (Chg.ext (Chg.refl _ _) ZZ13);have o7:=o7.keep (Chg.ext (Chg.refl _ _) ZZ13);have o8:=o8.keep (Chg.ext (Chg.refl _ _) ZZ13)
 have l13:=ZZ13.size
 clear ZZ12 Z12 Z13 ZZ13
 as_aux_lemma =>
 have n1:(nmWantS a:Nat)≤10000000:=by unfold nmWantS;omega
 have n2:(nmWantS b:Nat)≤10000000:=by unfold nmWantS;omega
 have n3:=nmWorld_new e1 e2
 have sz7:=X7.size;have sz5:=X5.size;have sz8:=X8.size;have sz9:=X9.size
 have U0:Upd x13 x13 F7:=Upd.refl _ _
 go_wp2_with fail
 refine (mark_WantS (o7.keep (Chg.ext (Chg.refl _ _) extT)) oM oM).mono ?_
 rintro e v14 ⟨rfl,U,m7⟩
 have X14:Ext w v14:=Ext.upd_below X13 U (fun i hi=>by have:=f7.out i hi;omega)
 have RM:=rangeAt_updF RM U (fun hi=>by have:=f7.out _ hi;omega);have RQ:=rangeAt_updF RQ U (fun hi=>by have:=f7.out _ hi;omega)
 have p5:=p5.upd U (fun i h1 h2=>by have:=f7.out i h2;have:=f5.out i h1;omega);have p9:=p9.upd U (fun i h1 h2=>by have:=f7.out i h2;have:=f9.out i h1;omega);have o8:=o8.upd U (fun i h1 h2=>by have:=f7.out i h2;have:=f8.out i h1;omega)
 have l14:=U.size
 clear U U0 m7
 obtain⟨q2,hq2⟩:∃ q:Int,q=1+((nmWantS a:Nat):Int):=⟨_,rfl⟩
 rw [← hq2]
 have b2:0≤q2∧q2≤20000000:=by omega
 clear hq2
 go_wp2_with fail
 refine (mark_WantS o8 oM oM).mono ?_
 rintro e v15 ⟨rfl,U,m8⟩
 have X15:Ext w v15:=Ext.upd_below X14 U (fun i hi=>by have:=f8.out i hi;omega)
 have RM:=rangeAt_updF RM U (fun hi=>by have:=f8.out _ hi;omega);have RQ:=rangeAt_updF RQ U (fun hi=>by have:=f8.out _ hi;omega)
 have p5:=p5.upd U (fun i h1 h2=>by have:=f8.out i h2;have:=f5.out i h1;omega);have p9:=p9.upd U (fun i h1 h2=>by have:=f8.out i h2;have:=f9.out i h1;omega)
 have l15:=U.size
 clear U m8
 obtain⟨q3,hq3⟩:∃ q:Int,q=q2+((nmWantS b:Nat):Int):=⟨_,rfl⟩
 rw [← hq3]
 have b3:decide (q3<0)=false:=by simp;omega
 clear hq3
 as_aux_lemma =>
 have hr1:(r != r)=false:=by simp
 go_wp2_with (first|(refine wpList_load_midG (by rfl) 106 _ rfl (w9.heap.size) 0 (by rfl) Q _ (rangeAt_ext RQ extT) Tryz.underlying106 rfl (by rw [hQ];kernel_rfl) ?_)|(refine wpList_load_midG (by rfl) 106 _ rfl (w5.heap.size) 0 (by rfl) M _ (rangeAt_ext RM extT) Tryz.underlying106 rfl (by rw [hM];kernel_rfl) ?_))
 refine (eq_World (p9.rd.ext extT) (p5.rd.ext extT)).mono ?_
 rintro e v16 ⟨rfl,hx⟩
 have Y16:Ext v15 v16:=Ext.trans extT hx
 have X16:Ext w v16:=X15.trans Y16
 have RM:=rangeAt_ext RM Y16;have RQ:=rangeAt_ext RQ Y16;have p5:=p5.keep (Chg.ext (Chg.refl _ _) Y16);have p9:=p9.keep (Chg.ext (Chg.refl _ _) Y16)
 have l16:=Y16.size
 clear hx Y16
 as_aux_lemma =>
 have hr1:(r != r)=false:=by simp
 go_wp2_with (first|(refine wpList_load_mid rfl 106 _ rfl (w9.heap.size) 0 (by rfl) Q _ (rangeAt_ext RQ extT) Tryz.underlying106 rfl (by rw [hQ];kernel_rfl) ?_))
 refine (mark_World (p9.keep (Chg.ext (Chg.refl _ _) extT)) oM oM).mono ?_
 rintro e v17 ⟨rfl,U,m9⟩
 have X17:Ext w v17:=Ext.upd_below X16 U (fun i hi=>by have:=f9.out i hi;omega)
 have RM:=rangeAt_updF RM U (fun hi=>by have:=f9.out _ hi;omega);have RQ:=rangeAt_updF RQ U (fun hi=>by have:=f9.out _ hi;omega)
 have p5:=p5.upd U (fun i h1 h2=>by have:=f9.out i h2;have:=f5.out i h1;omega)
 have l17:=U.size
 clear U
 obtain⟨q4,hq4⟩:∃ q:Int,q=1+((nmWorld (newWorldD a b):Nat):Int):=⟨_,rfl⟩
 rw [← hq4]
 have b4:decide (q4<0)=false:=by simp;omega
 have b5:(q4 != q4)=false:=by simp
 have HQ:=Lib.hid hq4;clear hq4
 go_wp2_with (first|(refine wpList_load_mid rfl 106 _ rfl (w9.heap.size) 0 (by rfl) Q _ (rangeAt_ext RQ extT) Tryz.underlying106 rfl (by rw [hQ];kernel_rfl) ?_))
 refine (held_World (m9.ext extT) oM oM).mono ?_
 rintro e v18 ⟨rfl,hx⟩
 rw [← HQ.out]
 have Y18:Ext v17 v18:=Ext.trans extT hx
 have X18:Ext w v18:=X17.trans Y18
 have RM:=rangeAt_ext RM Y18;have RQ:=rangeAt_ext RQ Y18;have p5:=p5.keep (Chg.ext (Chg.refl _ _) Y18);have m9:=m9.ext Y18
 clear hx Y18
 as_aux_lemma =>
 go_wp2_with fail
 refine (to_WantS (h0.ext (Ext.trans X18 extT)) s1).mono ?_
 rintro e w19 ⟨u19,rfl,hx19,F19,o19⟩
 have Y19:Ext v18 w19:=Ext.trans extT hx19
 go_wp2_with fail
 refine (to_WantS (h1.ext (Ext.trans X18 extT)) s2).mono ?_
 rintro e w20 ⟨u20,rfl,hx20,F20,o20⟩
 have Y20:Ext v18 w20:=Ext.trans extT hx20
 go_wp2_with fail
 refine (newWorld_k (o19.rd.ext extT) (o20.rd.ext extT) e1 e2).mono ?_
 rintro e w21 ⟨_,rfl,hx,N',rfl,F21,o21⟩
 rw [← HR.out]
 have Y21:Ext v18 w21:=Ext.trans extT hx
 have X21:Ext w w21:=X18.trans Y21
 have RM:=rangeAt_ext RM Y21;have RQ:=rangeAt_ext RQ Y21;have p5:=p5.keep (Chg.ext (Chg.refl _ _) Y21);have m9:=m9.ext Y21
 clear hx Y21 Y19 Y20 o19 o20 hx19 hx20
 obtain⟨N,rfl,hN,oneN⟩:=o21.rd.cells
 as_aux_lemma =>
 have hr1:(r != r)=false:=by simp
 go_wp2_with (first|(refine wpList_load_mid rfl 106 _ rfl (w21.heap.size) 0 (by rfl) N _ (rangeAt_ext RN extT) Tryz.underlying106 rfl (by rw [hN];kernel_rfl) ?_)|(refine wpList_load_mid rfl 106 _ rfl (w5.heap.size) 0 (by rfl) M _ (rangeAt_ext RM extT) Tryz.underlying106 rfl (by rw [hM];kernel_rfl) ?_)|(refine wpList_store_part rfl 106 _ _ rfl w21.heap.size 0 (.agg N.toArray) N (by rfl) (by rfl) rfl 106 [] [Value.slice none 0 0,Value.slice none 0 0,Value.slice none 0 0,Value.slice none 0 0,Value.int .i64 0,Value.int .i64 0,Value.int .i64 0,Value.slice none 0 0,Value.int .i64 0,Value.int .i64 0,Value.int .i64 0,Value.slice none 0 0,Value.bool false,Value.int .i64 0,Value.int .i64 0,Value.slice none 0 0,Value.slice none 0 0,Value.int .i64 0,Value.slice none 0 0,Value.slice none 0 0,Value.slice none 0 0,Value.int .i64 0,Value.int .i64 0,Value.slice none 0 0,Value.slice none 0 0,Value.int .i64 0,Value.int .i64 0,Value.int .i64 0,Value.int .i64 0,Value.int .i64 0,Value.int .i64 0,Value.int .i64 0,Value.int .i64 0,Value.int .i64 0,Value.int .i64 0,Value.int .i64 0,Value.int .i64 0,Value.int .i64 0,Value.slice none 0 0,Value.bool false,Value.int .i64 0,Value.int .i64 0,Value.int .i64 0,Value.int .i64 0,Value.int .i64 0,Value.int .i64 0,Value.int .i64 0,Value.int .i64 0,Value.int .i64 0,Value.int .i64 0,Value.int .i64 0,Value.int .i64 0,Value.int .i64 0,Value.slice none 0 0,Value.bool false,Value.int .i64 0,Value.int .i64 0,Value.int .i64 0,Value.int .i64 0,Value.int .i64 0,Value.int .i64 0,Value.int .i64 0,Value.slice none 0 0,Value.slice none 0 0,Value.int .i64 0,Value.int .i64 0,Value.slice none 0 0,Value.slice none 0 0,Value.int .i64 0,Value.slice none 0 0,Value.slice none 0 0,Value.slice none 0 0,Value.slice none 0 0] [] (Bk.cast (Bk.new w21 106 [Value.slice none 0 0,Value.slice none 0 0,Value.slice none 0 0,Value.slice none 0 0,Value.int .i64 0,Value.int .i64 0,Value.int .i64 0,Value.slice none 0 0,Value.int .i64 0,Value.int .i64 0,Value.int .i64 0,Value.slice none 0 0,Value.bool false,Value.int .i64 0,Value.int .i64 0,Value.slice none 0 0,Value.slice none 0 0,Value.int .i64 0,Value.slice none 0 0,Value.slice none 0 0,Value.slice none 0 0,Value.int .i64 0,Value.int .i64 0,Value.slice none 0 0,Value.slice none 0 0,Value.int .i64 0,Value.int .i64 0,Value.int .i64 0,Value.int .i64 0,Value.int .i64 0,Value.int .i64 0,Value.int .i64 0,Value.int .i64 0,Value.int .i64 0,Value.int .i64 0,Value.int .i64 0,Value.int .i64 0,Value.int .i64 0,Value.slice none 0 0,Value.bool false,Value.int .i64 0,Value.int .i64 0,Value.int .i64 0,Value.int .i64 0,Value.int .i64 0,Value.int .i64 0,Value.int .i64 0,Value.int .i64 0,Value.int .i64 0,Value.int .i64 0,Value.int .i64 0,Value.int .i64 0,Value.int .i64 0,Value.slice none 0 0,Value.bool false,Value.int .i64 0,Value.int .i64 0,Value.int .i64 0,Value.int .i64 0,Value.int .i64 0,Value.int .i64 0,Value.int .i64 0,Value.slice none 0 0,Value.slice none 0 0,Value.int .i64 0,Value.int .i64 0,Value.slice none 0 0,Value.slice none 0 0,Value.int .i64 0,Value.slice none 0 0,Value.slice none 0 0,Value.slice none 0 0,Value.slice none 0 0]) (by simp)) rfl (by rw [hN];rfl) (by rw [hN];kernel_rfl) oneN ?_;intro V22 hV22 B22;have X22:Ext w V22:=Ext.ofSet hV22 extT (by have:=X21.size;omega);have p21:=o21.keep (Chg.ofSet hV22 (Chg.ext (Chg.refl _ _) ((Ext.refl _).alloc _)) (Or.inr (Nat.le_refl _)));have RN:V22.rangeAt w21.heap.size 0 N:=Bk.range (A:=[]) (C:=[]) (Bk.cast B22 (by simp)) rfl;have Y22:Ext w21 V22:=Ext.ofSet hV22 extT (Nat.le_refl _);clear hV22 B22 o21))
 refine (eq_World (p21.rd.ext extT) (p5.rd.ext (Ext.trans Y22 extT))).mono ?_
 rintro e v23 ⟨rfl,hx⟩
 have Y23:Ext V22 v23:=Ext.trans extT hx
 have X23:Ext w v23:=X22.trans Y23
 have RQ:=rangeAt_ext RQ (Y22.trans Y23);have m9:=m9.ext (Y22.trans Y23)
 clear hx p21 RN RM p5
 as_aux_lemma =>
 have b4:decide (q4<0)=false:=by simp;have:=HQ.out;omega
 have b5:(q4 != q4)=false:=by simp
 go_wp2_with (first|(refine wpList_load_mid rfl 106 _ rfl (w9.heap.size) 0 (by rfl) Q _ (rangeAt_ext RQ extT) Tryz.underlying106 rfl (by rw [hQ];kernel_rfl) ?_))
 refine (held_World (m9.ext extT) oM oM).mono ?_
 rintro e v24 ⟨rfl,hx⟩
 rw [← HQ.out]
 have X24:Ext w v24:=X23.trans (Ext.trans extT hx)
 go_wp2_with fail
 go_ret
 exact⟨rfl,by exact extT⟩
end Go.Proofs.YtkpmbocbbgocbaaGreat
namespace Go.Proofs.YtkpmbocbbgocbaaGreat.fnExactNewWorld
open Go.ChangeShapes Go.WideShapes Go.ChangeAt Go.RowKit Go.G8
open Go.Proofs.YtkpmbocbbgocbaaGreat.facts (b2)
theorem lifted (os:Os) (started:os.Started) (H:Type) (enc:TypeId × Value→H) :
  ReturnsInHanded {} Tryz.checked os 7 .any (Rows.fnExactNewWorldSpec.pre6 enc Tryz.prog Tryz.f7 Rows.fnExactNewWorldRow.domain false) (Rows.fnExactNewWorldSpec.post enc Tryz.prog Tryz.f7 false true false false):=by
 refine returnsInHanded_of_change (C:=Tryz.checked) own started (by kernel_rfl) Tryz.func7
  (ChangeSpec.witness6 (enc:=enc) (C:=Tryz.checked) false ⟨#[],#[.slice none 0 0,.slice none 0 0],[]⟩ 8 (by kernel_rfl) (by kernel_rfl) (by kernel_rfl) (by kernel_rfl)) ?_
 intro W base args ds gs before hval0 hW _ _
 have hval:∀ (j:Nat) t v,Tryz.f7.params[j]?=some t→args[j]?=some v→Value.okWide Tryz.prog W .any base t v:=hval0
 have hW':=hW
 obtain⟨p,q,hA0,hV,rfl,hfz,hnd⟩:=hW
 have hA:DataW.TrodAll enc Tryz.prog W 0 (fun _=>true) true Tryz.f7.params.toList args.toList ds p:=hA0
 rw [Tryz.params7] at hA hval
 obtain⟨v0,vs0,d0,ds0,p0,q0,hargs,rfl,rfl,h0,r0⟩:=trodAll_cons hA
 obtain⟨v1,vs1,d1,ds1,p1,q1,rfl,rfl,rfl,h1,r1⟩:=trodAll_cons r0
 obtain⟨rfl,rfl,rfl⟩:=trodAll_nil r1
 obtain rfl:args=#[v0,v1]:=by cases args;simp_all
 obtain⟨rfl,rfl⟩:=trodVars_none hV
 have k0:=h0
 have lt0:∀ x ∈ p0,x.block<W.heap.size:=by obtain⟨m,hm⟩:=k0;exact DataW.trod_lt m _ _ _ hm
 obtain⟨sa0,sn0,sc0,rfl⟩:=okWide_slice Tryz.underlying54 (hval 0 54 v0 rfl rfl)
 obtain⟨m0,hm0⟩:=h0
 obtain⟨s0,l0,e0,g0⟩:=rl_WantS hm0
 simp [Value.cells] at e0
 subst e0
 have k1:=h1
 have lt1:∀ x ∈ p1,x.block<W.heap.size:=by obtain⟨m,hm⟩:=k1;exact DataW.trod_lt m _ _ _ hm
 obtain⟨sa1,sn1,sc1,rfl⟩:=okWide_slice Tryz.underlying54 (hval 1 54 v1 rfl rfl)
 obtain⟨m1,hm1⟩:=h1
 obtain⟨s1,l1,e1,g1⟩:=rl_WantS hm1
 simp [Value.cells] at e1
 subst e1
 clear hA0 hval0
 refine (law_NewWorld W _ l0 g0 _ l1 g1).mono fun e W' ⟨he,bel0⟩=>?_
 have bel:Below W.heap.size W W':=bel0
 subst he
 exact⟨_,rfl,_,_,_,[],_,[],hW',trodAll_mk1 (shut_bool Tryz.underlying4 _),(trodAll_cons_mk (Below.trod laidOut (by kernel_rfl) (of_decide_eq_true (by kernel_rfl)) k0 bel lt0) (trodAll_cons_mk (Below.trod laidOut (by kernel_rfl) (of_decide_eq_true (by kernel_rfl)) k1 bel lt1) trodAll_mk0)),rfl,bel.frame _,fun h=>by cases h⟩
theorem k0:(Rows.fnExactNewWorldRow.wf (OpenSpec.ofChange Rows.fnExactNewWorldSpec))=true:=by kernel_rfl
theorem k1:(laidOutB Tryz.checked.prog)=true:=facts.k1
theorem k2:(mapsRowed Tryz.checked.prog)=true:=facts.k2
theorem k3:(Tryz.f7.params.all (Tryz.checked.prog.readableRec ·))=true:=by kernel_rfl
theorem k4:(namedTie Tryz.checked.prog Rows.fnExactNewWorldRow.named Rows.fnExactNewWorldSpec.vars)=true:=by kernel_rfl
theorem k5:((Rows.fnExactNewWorldRow.stops == []))=true:=by kernel_rfl
theorem k6:((Tryz.checked.prog.stops == []))=true:=facts.k6
theorem k7:((Rows.fnExactNewWorldRow.knobs == []))=true:=by kernel_rfl
theorem k8:((Tryz.checked.prog.stopKnobs == []))=true:=facts.k8
theorem k9:((Rows.fnExactNewWorldRow.inPlace == Tryz.checked.prog.inPlace 7))=true:=by kernel_rfl
theorem k10:((Rows.fnExactNewWorldRow.unfollowed == Tryz.checked.prog.unfollowed 7))=true:=by kernel_rfl
theorem k11:((Rows.fnExactNewWorldRow.recurses == Tryz.checked.prog.recurses 7))=true:=by kernel_rfl
theorem k12:((Rows.fnExactNewWorldRow.named == Tryz.checked.prog.varsNamed 7))=true:=by kernel_rfl
theorem k13:((Rows.fnExactNewWorldRow.maps == (Tryz.f7.params.toList ++ Rows.fnExactNewWorldSpec.plain.varTypes Tryz.checked.prog).any (Tryz.checked.prog.mapsRec ·)))=true:=by kernel_rfl
theorem k14:((Rows.fnExactNewWorldRow.ifaces == (Tryz.f7.params.toList ++ Rows.fnExactNewWorldSpec.plain.varTypes Tryz.checked.prog).any (Tryz.checked.prog.ifacesRec ·)))=true:=by kernel_rfl
theorem k15:((Rows.fnExactNewWorldRow.mapsOut == Tryz.checked.prog.mapsAmong Tryz.f7.resultTypes.toList))=true:=by kernel_rfl
theorem k16:((Rows.fnExactNewWorldRow.loops == (Tryz.f7.params.toList ++ Rows.fnExactNewWorldSpec.plain.varTypes Tryz.checked.prog).any (Tryz.checked.prog.loopsFrom ·)))=true:=by kernel_rfl
theorem k17:((Rows.fnExactNewWorldRow.wideKeys == (Tryz.f7.params.toList ++ Rows.fnExactNewWorldSpec.plain.varTypes Tryz.checked.prog ++ Tryz.f7.resultTypes.toList).any (Tryz.checked.prog.wideKeysFrom ·)))=true:=by kernel_rfl
theorem k18:(Rows.fnExactNewWorldSpec.vars.all (Tryz.checked.prog.varReadable ·))=true:=by kernel_rfl
theorem k19:(Tryz.f7.resultTypes.all (fun t=>Tryz.checked.prog.readableRec t && decide (t<Tryz.checked.prog.types.size)))=true:=by kernel_rfl
theorem k20:((Rows.fnExactNewWorldRow.ifacesOut == Tryz.f7.resultTypes.toList.any (Tryz.checked.prog.ifacesRec ·)))=true:=by kernel_rfl
theorem k21:((Rows.fnExactNewWorldRow.loopsOut == Tryz.f7.resultTypes.toList.any (Tryz.checked.prog.loopsFrom ·)))=true:=by kernel_rfl
theorem k22:((Rows.fnExactNewWorldRow.plainKeys == Tryz.checked.prog.plainKeys))=true:=facts.k22
theorem k23:(Rows.fnExactNewWorldRow.shortTexts.isNone)=true:=by kernel_rfl
theorem k24:(Tryz.checked.prog.stopsHeard)=true:=facts.k24
theorem k25:(Tryz.checked.prog.mayEnter)=true:=facts.k25
theorem k26:((Rows.fnExactNewWorldRow.lifted == Tryz.checked.prog.liftsFinal))=true:=facts.k26
theorem k27:((Tryz.checked.prog.make == some Rows.fnExactNewWorldRow.make))=true:=facts.k27
theorem k28:((Rows.fnExactNewWorldRow.kinds == (if Rows.fnExactNewWorldRow.domain.isEmpty then [] else Tryz.f7.params.toList.map fun t=>match Tryz.checked.prog.underlying t with|some (.int k)=>some k|_=>none)))=true:=by kernel_rfl
theorem k29:((Rows.fnExactNewWorldRow.pinned == Rows.fnExactNewWorldRow.pinnedBy))=true:=by kernel_rfl
theorem k30:((Rows.fnExactNewWorldRow.veiled == (Tryz.f7.params.toList ++ Rows.fnExactNewWorldSpec.plain.varTypes Tryz.checked.prog ++ Tryz.f7.resultTypes.toList).any (Tryz.checked.prog.veiledRec ·)))=true:=by kernel_rfl
theorem k31:(Rows.fnExactNewWorldRow.veiledFits Tryz.checked.prog Tryz.f7.params.toList (Tryz.f7.params.toList ++ Rows.fnExactNewWorldSpec.plain.varTypes Tryz.checked.prog ++ Tryz.f7.resultTypes.toList))=true:=by kernel_rfl
theorem closed:joinedFacts Tryz.checked.prog 7 Tryz.f7 Rows.fnExactNewWorldSpec Rows.fnExactNewWorldRow=true:=by
 unfold joinedFacts
 exact (b2 (b2 (b2 (b2 (b2 (b2 (b2 (b2 (b2 (b2 (b2 (b2 (b2 (b2 (b2 (b2 (b2 (b2 (b2 (b2 (b2 (b2 (b2 (b2 (b2 (b2 (b2 (b2 (b2 (b2 (b2 k0 k1) k2) k3) k4) k5) k6) k7) k8) k9) k10) k11) k12) k13) k14) k15) k16) k17) k18) k19) k20) k21) k22) k23) k24) k25) k26) k27) k28) k29) k30) k31)
theorem proved:Rows.FnExactNewWorldSaid :=
 OpenClaim.holds_of_wide 7 Tryz.f7 rfl rfl rfl rfl rfl rfl rfl ⟨rfl,rfl,rfl,rfl,rfl⟩ rfl rfl rfl rfl rfl (by as_aux_lemma=>kernel_rfl) Tryz.func7 closed
  (of_decide_eq_true (by as_aux_lemma=>kernel_rfl)) (by as_aux_lemma=>(unfold Func.isWrapper;rw [if_neg (of_decide_eq_false (by kernel_rfl))];exact⟨rfl,rfl⟩))
  (fun os started H enc _=>lifted os started H enc)
end Go.Proofs.YtkpmbocbbgocbaaGreat.fnExactNewWorld
