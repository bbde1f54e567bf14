/- The statement FnExactSameWorld: walk and row. -/
import Derived.Test.YtkpmbocbbgocbaaGreatGa
import Derived.Test.YtkpmbocbbgocbaaGreatB3
import Derived.Test.YtkpmbocbbgocbaaGreatN5
import Derived.Test.YtkpmbocbbgocbaaGreatGc
import Derived.Test.YtkpmbocbbgocbaaGreatB12
set_option linter.unusedSimpArgs false
set_option linter.unusedVariables false
set_option maxHeartbeats 40000000
set_option maxRecDepth 100000
namespace Go.Proofs.YtkpmbocbbgocbaaGreat
open Go.RowKit Go.G8
theorem law_SameWorld (w:World) (v:Value) (d:DWorld) (h0:RdWorld w v d) (u:Value) (f:DWorld) (h1:RdWorld w u f) :
  Calls Tryz.prog 3 #[v,u] w (RetV w (.bool true)):=by
 obtain⟨L,rfl,hL,-⟩:=h0.cells
 obtain⟨N,rfl,hN,-⟩:=h1.cells
 obtain⟨W0,hW0⟩:∃ W0,W0=(w.alloc (.cells L.toArray 65)).alloc (.cells N.toArray 65):=⟨_,rfl⟩
 have E0:Ext w W0:=by rw [hW0];exact ((Ext.refl _).alloc _).alloc _
 have RL:W0.rangeAt w.heap.size 0 L:=by rw [hW0];exact rangeAt_ext (Bk.new _ _ _).ra ((Ext.refl _).alloc _)
 have RN:W0.rangeAt (w.heap.size+1) 0 N:=by
  rw [hW0]
  have:=(Bk.new (w.alloc (.cells L.toArray 65)) 65 N).ra
  simpa using this
 go_enter Tryz.func3,Tryz.ntmps3
 go_upto_region 1 with (fail)
 rw [← hW0];clear hW0
 go_wp2_with (first|(refine wpList_load_mid rfl 65 _ rfl (w.heap.size) 0 (by rfl) L _ (rangeAt_ext RL extT) Tryz.underlying65 rfl (by rw [hL];kernel_rfl) ?_))
 refine (sz_World (h0.ext (E0.trans extT)) (left:=1048576) oM oM).mono ?_
 rintro e w1 ⟨v1,rfl,hx,hv⟩
 have X1:Ext W0 w1:=Ext.trans extT hx;clear hx
 rcases hv with ⟨rfl,hq⟩|⟨rfl,hq⟩
 ·
  clear hq
  go_wp2_with fail
  go_ret
  exact⟨rfl,by exact extT⟩
 obtain⟨z1,hz⟩:∃ z,z=(1048576:Int) - (sznWorld d:Nat):=⟨_,rfl⟩
 rw [← hz]
 have hd1:decide (z1<0)=false:=by simp;omega
 have y1:0≤z1∧z1≤1048576:=by omega
 have s1:sznWorld d≤1048576:=by omega
 clear hz hq
 go_wp2_with (first|(refine wpList_load_mid rfl 65 _ rfl (w.heap.size+1) 0 (by rfl) N _ (rangeAt_ext RN extT) Tryz.underlying65 rfl (by rw [hN];kernel_rfl) ?_))
 refine (sz_World (h1.ext (E0.trans extT)) (left:=z1) oM oM).mono ?_
 rintro e w2 ⟨v2,rfl,hx,hv⟩
 have X2:Ext W0 w2:=Ext.trans extT hx;clear hx
 rcases hv with ⟨rfl,hq⟩|⟨rfl,hq⟩
 ·
  clear hq
  go_wp2_with fail
  go_ret
  exact⟨rfl,by exact extT⟩
 obtain⟨z2,hz⟩:∃ z,z=(z1:Int) - (sznWorld f:Nat):=⟨_,rfl⟩
 rw [← hz]
 have hd2:decide (z2<0)=false:=by simp;omega
 have y2:0≤z2∧z2≤1048576:=by omega
 have s2:sznWorld f≤1048576:=by omega
 clear hz hq
 go_upto_region 8 with (fail)
 refine wp_region_held_drew (S:=fun w'=>Ext W0 w') (by kernel_rfl) (by (try dsimp only);exact extT) (fun hHeld=>?_)
 refine wpAnyH_take (i:=0) (v:=.agg L.toArray) rfl (by kernel_rfl) (by kernel_rfl) (by kernel_rfl) (fun _ _ _ h=>h) (yieldsIf_load_mid (by rfl) 65 _ rfl (w.heap.size) 0 (by rfl) L _ (fun _ hSw=>rangeAt_ext RL hSw) Tryz.underlying65 rfl (by rw [hL];kernel_rfl)) (by assumption) ?_
 (try simp only [redA,Act.put])
 refine wpAnyH_take (i:=2) (v:=.agg N.toArray) rfl (by kernel_rfl) (by kernel_rfl) (by kernel_rfl) (fun _ _ _ h=>h) (yieldsIf_load_mid (by rfl) 65 _ rfl (w.heap.size+1) 0 (by rfl) N _ (fun _ hSw=>rangeAt_ext RN hSw) Tryz.underlying65 rfl (by rw [hN];kernel_rfl)) (by assumption) ?_
 (try simp only [redA,Act.put])
 refine wr1 1 fun Kz hKz=>?_
 (try simp only [redA])
 go_simp
 go_at_call 10
 refine (to_World (h0.ext (E0.trans extT)) s1).mono ?_
 rintro e w3 ⟨u3,rfl,hx,F3,o3⟩
 have X3:Ext W0 w3:=Ext.trans extT hx
 clear hx
 refine hKz.out _ _ (by (try dsimp only);exact extT) (fun hHeld=>?_)
 clear hKz Kz
 (try simp only [redA,Act.put])
 refine wr1 3 fun Kz hKz=>?_
 (try simp only [redA])
 go_simp
 go_at_call 10
 refine (to_World (h1.ext (E0.trans extT)) s2).mono ?_
 rintro e w4 ⟨u4,rfl,hx,F4,o4⟩
 have X4:Ext W0 w4:=Ext.trans extT hx
 have o3:=o3.keep (Chg.ext (Chg.refl _ _) (Ext.trans extT hx:Ext w3 w4));clear hx
 refine hKz.out _ _ (by (try dsimp only);exact extT) (fun hHeld=>?_)
 clear hKz Kz
 (try simp only [redA,Act.put])
 refine wr1 4 fun Kz hKz=>?_
 (try simp only [redA])
 go_simp
 go_at_call 9
 refine (sSameWorld_k (o3.rd.ext extT) (o4.rd.ext extT) (by have:=worldN_len d;omega) (by have:=worldN_len f;omega)).mono ?_
 rintro e w5 ⟨rfl,hx⟩
 have X5:Ext W0 w5:=Ext.trans extT hx
 clear hx o3 o4
 obtain⟨r,hr⟩:∃ r,r=sameWorldB d f:=⟨_,rfl⟩
 rw [← hr];have HR:=Lib.hid hr;clear hr
 refine hKz.out _ _ (by (try dsimp only);exact extT) (fun hHeld=>?_)
 clear hKz Kz
 (try simp only [redA,Act.put])
 refine wt 5 ?_
 (try simp only [redA,Act.put])
 refine wpAnyH_done (by kernel_rfl) ?_ _
 as_aux_lemma =>
 go_wp2_with (first|(refine wpList_load_mid rfl 65 _ rfl (w.heap.size) 0 (by rfl) L _ (rangeAt_ext RL extT) Tryz.underlying65 rfl (by rw [hL];kernel_rfl) ?_))
 refine (to_World (h0.ext (E0.trans extT)) s1).mono ?_
 rintro e w6 ⟨u6,rfl,hx,F6,o6⟩
 have X6:Ext W0 w6:=Ext.trans extT hx
 clear hx
 obtain⟨M,rfl,hM,oneM⟩:=o6.rd.cells
 go_wp2_with (first|(refine wpList_load_mid rfl 65 _ rfl (w.heap.size+1) 0 (by rfl) N _ (rangeAt_ext RN extT) Tryz.underlying65 rfl (by rw [hN];kernel_rfl) ?_)|(refine wpList_store_part rfl 106 _ _ rfl w6.heap.size 0 (.agg M.toArray) M (by rfl) (by rfl) rfl 106 [] [Value.slice none 0 0,Value.slice none 0 0,Value.slice none 0 0,Value.slice none 0 0,Value.int .i64 0,Value.int .i64 0,Value.int .i64 0,Value.slice none 0 0,Value.int .i64 0,Value.int .i64 0,Value.int .i64 0,Value.slice none 0 0,Value.bool false,Value.int .i64 0,Value.int .i64 0,Value.slice none 0 0,Value.slice none 0 0,Value.int .i64 0,Value.slice none 0 0,Value.slice none 0 0,Value.slice none 0 0,Value.int .i64 0,Value.int .i64 0,Value.slice none 0 0,Value.slice none 0 0,Value.int .i64 0,Value.int .i64 0,Value.int .i64 0,Value.int .i64 0,Value.int .i64 0,Value.int .i64 0,Value.int .i64 0,Value.int .i64 0,Value.int .i64 0,Value.int .i64 0,Value.int .i64 0,Value.int .i64 0,Value.int .i64 0,Value.slice none 0 0,Value.bool false,Value.int .i64 0,Value.int .i64 0,Value.int .i64 0,Value.int .i64 0,Value.int .i64 0,Value.int .i64 0,Value.int .i64 0,Value.int .i64 0,Value.int .i64 0,Value.int .i64 0,Value.int .i64 0,Value.int .i64 0,Value.int .i64 0,Value.slice none 0 0,Value.bool false,Value.int .i64 0,Value.int .i64 0,Value.int .i64 0,Value.int .i64 0,Value.int .i64 0,Value.int .i64 0,Value.int .i64 0,Value.slice none 0 0,Value.slice none 0 0,Value.int .i64 0,Value.int .i64 0,Value.slice none 0 0,Value.slice none 0 0,Value.int .i64 0,Value.slice none 0 0,Value.slice none 0 0,Value.slice none 0 0,Value.slice none 0 0] [] (Bk.cast (Bk.new w6 106 [Value.slice none 0 0,Value.slice none 0 0,Value.slice none 0 0,Value.slice none 0 0,Value.int .i64 0,Value.int .i64 0,Value.int .i64 0,Value.slice none 0 0,Value.int .i64 0,Value.int .i64 0,Value.int .i64 0,Value.slice none 0 0,Value.bool false,Value.int .i64 0,Value.int .i64 0,Value.slice none 0 0,Value.slice none 0 0,Value.int .i64 0,Value.slice none 0 0,Value.slice none 0 0,Value.slice none 0 0,Value.int .i64 0,Value.int .i64 0,Value.slice none 0 0,Value.slice none 0 0,Value.int .i64 0,Value.int .i64 0,Value.int .i64 0,Value.int .i64 0,Value.int .i64 0,Value.int .i64 0,Value.int .i64 0,Value.int .i64 0,Value.int .i64 0,Value.int .i64 0,Value.int .i64 0,Value.int .i64 0,Value.int .i64 0,Value.slice none 0 0,Value.bool false,Value.int .i64 0,Value.int .i64 0,Value.int .i64 0,Value.int .i64 0,Value.int .i64 0,Value.int .i64 0,Value.int .i64 0,Value.int .i64 0,Value.int .i64 0,Value.int .i64 0,Value.int .i64 0,Value.int .i64 0,Value.int .i64 0,Value.slice none 0 0,Value.bool false,Value.int .i64 0,Value.int .i64 0,Value.int .i64 0,Value.int .i64 0,Value.int .i64 0,Value.int .i64 0,Value.int .i64 0,Value.slice none 0 0,Value.slice none 0 0,Value.int .i64 0,Value.int .i64 0,Value.slice none 0 0,Value.slice none 0 0,Value.int .i64 0,Value.slice none 0 0,Value.slice none 0 0,Value.slice none 0 0,Value.slice none 0 0]) (by simp)) rfl (by rw [hM];rfl) (by rw [hM];kernel_rfl) oneM ?_;intro V7 hV7 B7;have X7:Ext W0 V7:=Ext.ofSet hV7 extT (by have:=X6.size;omega);have p6:=o6.keep (Chg.ofSet hV7 (Chg.ext (Chg.refl _ _) ((Ext.refl _).alloc _)) (Or.inr (Nat.le_refl _)));have RM:V7.rangeAt w6.heap.size 0 M:=Bk.range (A:=[]) (C:=[]) (Bk.cast B7 (by simp)) rfl;clear hV7 B7 o6))
 refine (to_World (h1.ext (E0.trans extT)) s2).mono ?_
 rintro e w8 ⟨u8,rfl,hx,F8,o8⟩
 have X8:Ext W0 w8:=Ext.trans extT hx
 have p6:=p6.keep (Chg.ext (Chg.refl _ _) (Ext.trans extT hx:Ext V7 w8));have RM:=rangeAt_ext RM (Ext.trans extT hx:Ext V7 w8)
 clear hx
 obtain⟨Q,rfl,hQ,oneQ⟩:=o8.rd.cells
 go_wp2_with (first|(refine wpList_load_mid rfl 106 _ rfl (w6.heap.size) 0 (by rfl) M _ (rangeAt_ext RM extT) Tryz.underlying106 rfl (by rw [hM];kernel_rfl) ?_)|(refine wpList_load_mid rfl 106 _ rfl (w8.heap.size) 0 (by rfl) Q _ (rangeAt_ext RQ extT) Tryz.underlying106 rfl (by rw [hQ];kernel_rfl) ?_)|(refine wpList_store_part rfl 106 _ _ rfl w8.heap.size 0 (.agg Q.toArray) Q (by rfl) (by rfl) rfl 106 [] [Value.slice none 0 0,Value.slice none 0 0,Value.slice none 0 0,Value.slice none 0 0,Value.int .i64 0,Value.int .i64 0,Value.int .i64 0,Value.slice none 0 0,Value.int .i64 0,Value.int .i64 0,Value.int .i64 0,Value.slice none 0 0,Value.bool false,Value.int .i64 0,Value.int .i64 0,Value.slice none 0 0,Value.slice none 0 0,Value.int .i64 0,Value.slice none 0 0,Value.slice none 0 0,Value.slice none 0 0,Value.int .i64 0,Value.int .i64 0,Value.slice none 0 0,Value.slice none 0 0,Value.int .i64 0,Value.int .i64 0,Value.int .i64 0,Value.int .i64 0,Value.int .i64 0,Value.int .i64 0,Value.int .i64 0,Value.int .i64 0,Value.int .i64 0,Value.int .i64 0,Value.int .i64 0,Value.int .i64 0,Value.int .i64 0,Value.slice none 0 0,Value.bool false,Value.int .i64 0,Value.int .i64 0,Value.int .i64 0,Value.int .i64 0,Value.int .i64 0,Value.int .i64 0,Value.int .i64 0,Value.int .i64 0,Value.int .i64 0,Value.int .i64 0,Value.int .i64 0,Value.int .i64 0,Value.int .i64 0,Value.slice none 0 0,Value.bool false,Value.int .i64 0,Value.int .i64 0,Value.int .i64 0,Value.int .i64 0,Value.int .i64 0,Value.int .i64 0,Value.int .i64 0,Value.slice none 0 0,Value.slice none 0 0,Value.int .i64 0,Value.int .i64 0,Value.slice none 0 0,Value.slice none 0 0,Value.int .i64 0,Value.slice none 0 0,Value.slice none 0 0,Value.slice none 0 0,Value.slice none 0 0] [] (Bk.cast (Bk.new w8 106 [Value.slice none 0 0,Value.slice none 0 0,Value.slice none 0 0,Value.slice none 0 0,Value.int .i64 0,Value.int .i64 0,Value.int .i64 0,Value.slice none 0 0,Value.int .i64 0,Value.int .i64 0,Value.int .i64 0,Value.slice none 0 0,Value.bool false,Value.int .i64 0,Value.int .i64 0,Value.slice none 0 0,Value.slice none 0 0,Value.int .i64 0,Value.slice none 0 0,Value.slice none 0 0,Value.slice none 0 0,Value.int .i64 0,Value.int .i64 0,Value.slice none 0 0,Value.slice none 0 0,Value.int .i64 0,Value.int .i64 0,Value.int .i64 0,Value.int .i64 0,Value.int .i64 0,Value.int .i64 0,Value.int .i64 0,Value.int .i64 0,Value.int .i64 0,Value.int .i64 0,Value.int .i64 0,Value.int .i64 0,Value.int .i64 0,Value.slice none 0 0,Value.bool false,Value.int .i64 0,Value.int .i64 0,Value.int .i64 0,Value.int .i64 0,Value.int .i64 0,Value.int .i64 0,Value.int .i64 0,Value.int .i64 0,Value.int .i64 0,Value.int .i64 0,Value.int .i64 0,Value.int .i64 0,Value.int .i64 0,Value.slice none 0 0,Value.bool false,Value.int .i64 0,Value.int .i64 0,Value.int .i64 0,Value.int .i64 0,Value.int .i64 0,Value.int .i64 0,Value.int .i64 0,Value.slice none 0 0,Value.slice none 0 0,Value.int .i64 0,Value.int .i64 0,Value.slice none 0 0,Value.slice none 0 0,Value.int .i64 0,Value.slice none 0 0,Value.slice none 0 0,Value.slice none 0 0,Value.slice none 0 0]) (by simp)) rfl (by rw [hQ];rfl) (by rw [hQ];kernel_rfl) oneQ ?_;intro V9 hV9 B9;have X9:Ext W0 V9:=Ext.ofSet hV9 extT (by have:=X8.size;omega);have p8:=o8.keep (Chg.ofSet hV9 (Chg.ext (Chg.refl _ _) ((Ext.refl _).alloc _)) (Or.inr (Nat.le_refl _)));have RQ:V9.rangeAt w8.heap.size 0 Q:=Bk.range (A:=[]) (C:=[]) (Bk.cast B9 (by simp)) rfl;have RM:=rangeAt_ext RM (Ext.ofSet hV9 ((Ext.refl _).alloc _) (Nat.le_refl _));have p6:=p6.keep (Chg.ofSet hV9 (Chg.ext (Chg.refl _ _) ((Ext.refl _).alloc _)) (Or.inr (Nat.le_refl _)));clear hV9 B9 o8))
 refine (SameWorld_k (p6.rd.ext extT) (p8.rd.ext extT) (by have:=worldN_len d;omega) (by have:=worldN_len f;omega)).mono ?_
 rintro e v1 ⟨rfl,hx⟩
 have X1:Ext W0 v1:=Ext.trans extT hx
 rw [← HR.out]
 have h6:=p6.rd.ext (Ext.trans extT hx:Ext V9 v1);have h8:=p8.rd.ext (Ext.trans extT hx:Ext V9 v1)
 have RM:=rangeAt_ext RM (Ext.trans extT hx:Ext V9 v1);have RQ:=rangeAt_ext RQ (Ext.trans extT hx:Ext V9 v1);clear hx p6 p8
 have RL:=rangeAt_ext RL X1;have RN:=rangeAt_ext RN X1
 have g0:=h0.ext (E0.trans X1);have g1:=h1.ext (E0.trans X1)
 as_aux_lemma =>
 have hr1:(r != r)=false:=by simp
 go_upto_region 14 with (fail)
 refine wp_region_held_drew (S:=fun w'=>Ext v1 w') (by kernel_rfl) (by (try dsimp only);exact extT) (fun hHeld=>?_)
 refine wpAnyH_take (i:=0) (v:=.agg M.toArray) rfl (by kernel_rfl) (by kernel_rfl) (by kernel_rfl) (fun _ _ _ h=>h) (yieldsIf_load_mid (by rfl) 106 _ rfl (w6.heap.size) 0 (by rfl) M _ (fun _ hSw=>rangeAt_ext RM hSw) Tryz.underlying106 rfl (by rw [hM];kernel_rfl)) (by assumption) ?_
 (try simp only [redA,Act.put])
 refine wpAnyH_take (i:=1) (v:=.agg L.toArray) rfl (by kernel_rfl) (by kernel_rfl) (by kernel_rfl) (fun _ _ _ h=>h) (yieldsIf_load_mid (by rfl) 65 _ rfl (w.heap.size) 0 (by rfl) L _ (fun _ hSw=>rangeAt_ext RL hSw) Tryz.underlying65 rfl (by rw [hL];kernel_rfl)) (by assumption) ?_
 (try simp only [redA,Act.put])
 refine wr1 2 fun Kz hKz=>?_
 (try simp only [redA])
 go_simp
 go_at_call 10
 refine (to_World (g0.ext extT) s1).mono ?_
 rintro e y3 ⟨u3,rfl,hx,F3,o3⟩
 have Y3:Ext v1 y3:=Ext.trans extT hx
 clear hx
 refine hKz.out _ _ (by (try dsimp only);exact extT) (fun hHeld=>?_)
 clear hKz Kz
 (try simp only [redA,Act.put])
 refine wr1 3 fun Kz hKz=>?_
 (try simp only [redA])
 go_simp
 go_at_call 12
 refine (eq_World (h6.ext extT) (o3.rd.ext extT)).mono ?_
 rintro e x3 ⟨rfl,hx⟩
 have Z3:Ext v1 x3:=Ext.trans extT hx
 clear hx
 refine hKz.out _ _ (by (try dsimp only);exact extT) (fun hHeld=>?_)
 clear hKz Kz
 (try simp only [redA,Act.put])
 refine wt 4 ?_
 (try simp only [redA,Act.put])
 refine wpAnyH_done (by kernel_rfl) ?_ _
 clear o3 hr1
 go_upto_region 16 with (fail)
 refine wp_region_held_drew (S:=fun w'=>Ext v1 w') (by kernel_rfl) (by (try dsimp only);exact extT) (fun hHeld=>?_)
 refine wpAnyH_take (i:=0) (v:=.agg Q.toArray) rfl (by kernel_rfl) (by kernel_rfl) (by kernel_rfl) (fun _ _ _ h=>h) (yieldsIf_load_mid (by rfl) 106 _ rfl (w8.heap.size) 0 (by rfl) Q _ (fun _ hSw=>rangeAt_ext RQ hSw) Tryz.underlying106 rfl (by rw [hQ];kernel_rfl)) (by assumption) ?_
 (try simp only [redA,Act.put])
 refine wpAnyH_take (i:=1) (v:=.agg N.toArray) rfl (by kernel_rfl) (by kernel_rfl) (by kernel_rfl) (fun _ _ _ h=>h) (yieldsIf_load_mid (by rfl) 65 _ rfl (w.heap.size+1) 0 (by rfl) N _ (fun _ hSw=>rangeAt_ext RN hSw) Tryz.underlying65 rfl (by rw [hN];kernel_rfl)) (by assumption) ?_
 (try simp only [redA,Act.put])
 refine wr1 2 fun Kz hKz=>?_
 (try simp only [redA])
 go_simp
 go_at_call 10
 refine (to_World (g1.ext extT) s2).mono ?_
 rintro e y4 ⟨u4,rfl,hx,F4,o4⟩
 have Y4:Ext v1 y4:=Ext.trans extT hx
 clear hx
 refine hKz.out _ _ (by (try dsimp only);exact extT) (fun hHeld=>?_)
 clear hKz Kz
 (try simp only [redA,Act.put])
 refine wr1 3 fun Kz hKz=>?_
 (try simp only [redA])
 go_simp
 go_at_call 12
 refine (eq_World (h8.ext extT) (o4.rd.ext extT)).mono ?_
 rintro e x4 ⟨rfl,hx⟩
 have Z4:Ext v1 x4:=Ext.trans extT hx
 clear hx
 refine hKz.out _ _ (by (try dsimp only);exact extT) (fun hHeld=>?_)
 clear hKz Kz
 (try simp only [redA,Act.put])
 refine wt 4 ?_
 (try simp only [redA,Act.put])
 refine wpAnyH_done (by kernel_rfl) ?_ _
 go_wp2_with fail
 go_ret
 exact⟨rfl,by exact Ext.trans E0 (by exact Ext.trans X1 extT)⟩
end Go.Proofs.YtkpmbocbbgocbaaGreat
namespace Go.Proofs.YtkpmbocbbgocbaaGreat.fnExactSameWorld
open Go.ChangeShapes Go.WideShapes Go.ChangeAt Go.RowKit Go.G8
open Go.Proofs.YtkpmbocbbgocbaaGreat.facts (b2)
theorem lifted (os:Os) (started:os.Started) (H:Type) (enc:TypeId × Value→H) :
  ReturnsInHanded {} Tryz.checked os 3 .any (Rows.fnExactSameWorldSpec.pre6 enc Tryz.prog Tryz.f3 Rows.fnExactSameWorldRow.domain false) (Rows.fnExactSameWorldSpec.post enc Tryz.prog Tryz.f3 false true false false):=by
 refine returnsInHanded_of_change (C:=Tryz.checked) own started (by kernel_rfl) Tryz.func3
  (ChangeSpec.witness6 (enc:=enc) (C:=Tryz.checked) false ⟨#[],#[.agg #[.slice none 0 0,.slice none 0 0,.slice none 0 0,.slice none 0 0,.int .i64 0,.int .i64 0,.int .i64 0,.slice none 0 0,.int .i64 0,.int .i64 0,.int .i64 0,.slice none 0 0,.bool false,.int .i64 0,.int .i64 0,.slice none 0 0,.slice none 0 0,.int .i64 0,.slice none 0 0,.slice none 0 0,.slice none 0 0,.int .i64 0,.int .i64 0,.slice none 0 0,.slice none 0 0,.int .i64 0,.int .i64 0,.int .i64 0,.int .i64 0,.int .i64 0,.int .i64 0,.int .i64 0,.int .i64 0,.int .i64 0,.int .i64 0,.int .i64 0,.int .i64 0,.int .i64 0,.slice none 0 0,.bool false,.int .i64 0,.int .i64 0,.int .i64 0,.int .i64 0,.int .i64 0,.int .i64 0,.int .i64 0,.int .i64 0,.int .i64 0,.int .i64 0,.int .i64 0,.int .i64 0,.int .i64 0,.slice none 0 0,.bool false,.int .i64 0,.int .i64 0,.int .i64 0,.int .i64 0,.int .i64 0,.int .i64 0,.int .i64 0,.slice none 0 0,.slice none 0 0,.int .i64 0,.int .i64 0,.slice none 0 0,.slice none 0 0,.int .i64 0,.slice none 0 0,.slice none 0 0,.slice none 0 0,.slice none 0 0],.agg #[.slice none 0 0,.slice none 0 0,.slice none 0 0,.slice none 0 0,.int .i64 0,.int .i64 0,.int .i64 0,.slice none 0 0,.int .i64 0,.int .i64 0,.int .i64 0,.slice none 0 0,.bool false,.int .i64 0,.int .i64 0,.slice none 0 0,.slice none 0 0,.int .i64 0,.slice none 0 0,.slice none 0 0,.slice none 0 0,.int .i64 0,.int .i64 0,.slice none 0 0,.slice none 0 0,.int .i64 0,.int .i64 0,.int .i64 0,.int .i64 0,.int .i64 0,.int .i64 0,.int .i64 0,.int .i64 0,.int .i64 0,.int .i64 0,.int .i64 0,.int .i64 0,.int .i64 0,.slice none 0 0,.bool false,.int .i64 0,.int .i64 0,.int .i64 0,.int .i64 0,.int .i64 0,.int .i64 0,.int .i64 0,.int .i64 0,.int .i64 0,.int .i64 0,.int .i64 0,.int .i64 0,.int .i64 0,.slice none 0 0,.bool false,.int .i64 0,.int .i64 0,.int .i64 0,.int .i64 0,.int .i64 0,.int .i64 0,.int .i64 0,.slice none 0 0,.slice none 0 0,.int .i64 0,.int .i64 0,.slice none 0 0,.slice none 0 0,.int .i64 0,.slice none 0 0,.slice none 0 0,.slice none 0 0,.slice none 0 0]],[]⟩ 8 (by kernel_rfl) (by kernel_rfl) (by kernel_rfl) (by kernel_rfl)) ?_
 intro W base args ds gs before hval0 hW _ _
 have hval:∀ (j:Nat) t v,Tryz.f3.params[j]?=some t→args[j]?=some v→Value.okWide Tryz.prog W .any base t v:=hval0
 have hW':=hW
 obtain⟨p,q,hA0,hV,rfl,hfz,hnd⟩:=hW
 have hA:DataW.TrodAll enc Tryz.prog W 0 (fun _=>true) true Tryz.f3.params.toList args.toList ds p:=hA0
 rw [Tryz.params3] at hA hval
 obtain⟨v0,vs0,d0,ds0,p0,q0,hargs,rfl,rfl,h0,r0⟩:=trodAll_cons hA
 obtain⟨v1,vs1,d1,ds1,p1,q1,rfl,rfl,rfl,h1,r1⟩:=trodAll_cons r0
 obtain⟨rfl,rfl,rfl⟩:=trodAll_nil r1
 obtain rfl:args=#[v0,v1]:=by cases args;simp_all
 obtain⟨rfl,rfl⟩:=trodVars_none hV
 have k0:=h0
 have lt0:∀ x ∈ p0,x.block<W.heap.size:=by obtain⟨m,hm⟩:=k0;exact DataW.trod_lt m _ _ _ hm
 have hv0:=hval 0 65 v0 rfl rfl
 unfold Value.okWide at hv0
 rw [Tryz.underlying65] at hv0
 obtain⟨cs0,rfl,_,_⟩:=hv0
 obtain⟨m0,hm0⟩:=h0
 obtain⟨d0',g0⟩:=rk_World hm0
 have g0:RdWorld W (.agg cs0) d0':=by simpa [Value.cells] using g0
 have k1:=h1
 have lt1:∀ x ∈ p1,x.block<W.heap.size:=by obtain⟨m,hm⟩:=k1;exact DataW.trod_lt m _ _ _ hm
 have hv1:=hval 1 65 v1 rfl rfl
 unfold Value.okWide at hv1
 rw [Tryz.underlying65] at hv1
 obtain⟨cs1,rfl,_,_⟩:=hv1
 obtain⟨m1,hm1⟩:=h1
 obtain⟨d1',g1⟩:=rk_World hm1
 have g1:RdWorld W (.agg cs1) d1':=by simpa [Value.cells] using g1
 clear hA0 hval0
 refine (law_SameWorld W _ d0' g0 _ d1' g1).mono fun e W' ⟨he,bel0⟩=>?_
 have bel:Below W.heap.size W W':=bel0
 subst he
 exact⟨_,rfl,_,_,_,[],_,[],hW',trodAll_mk1 (shut_bool Tryz.underlying4 _),(trodAll_cons_mk (Below.trod laidOut (by kernel_rfl) (of_decide_eq_true (by kernel_rfl)) k0 bel lt0) (trodAll_cons_mk (Below.trod laidOut (by kernel_rfl) (of_decide_eq_true (by kernel_rfl)) k1 bel lt1) trodAll_mk0)),rfl,bel.frame _,fun h=>by cases h⟩
theorem k0:(Rows.fnExactSameWorldRow.wf (OpenSpec.ofChange Rows.fnExactSameWorldSpec))=true:=by kernel_rfl
theorem k1:(laidOutB Tryz.checked.prog)=true:=facts.k1
theorem k2:(mapsRowed Tryz.checked.prog)=true:=facts.k2
theorem k3:(Tryz.f3.params.all (Tryz.checked.prog.readableRec ·))=true:=by kernel_rfl
theorem k4:(namedTie Tryz.checked.prog Rows.fnExactSameWorldRow.named Rows.fnExactSameWorldSpec.vars)=true:=by kernel_rfl
theorem k5:((Rows.fnExactSameWorldRow.stops == []))=true:=by kernel_rfl
theorem k6:((Tryz.checked.prog.stops == []))=true:=facts.k6
theorem k7:((Rows.fnExactSameWorldRow.knobs == []))=true:=by kernel_rfl
theorem k8:((Tryz.checked.prog.stopKnobs == []))=true:=facts.k8
theorem k9:((Rows.fnExactSameWorldRow.inPlace == Tryz.checked.prog.inPlace 3))=true:=by kernel_rfl
theorem k10:((Rows.fnExactSameWorldRow.unfollowed == Tryz.checked.prog.unfollowed 3))=true:=by kernel_rfl
theorem k11:((Rows.fnExactSameWorldRow.recurses == Tryz.checked.prog.recurses 3))=true:=by kernel_rfl
theorem k12:((Rows.fnExactSameWorldRow.named == Tryz.checked.prog.varsNamed 3))=true:=by kernel_rfl
theorem k13:((Rows.fnExactSameWorldRow.maps == (Tryz.f3.params.toList ++ Rows.fnExactSameWorldSpec.plain.varTypes Tryz.checked.prog).any (Tryz.checked.prog.mapsRec ·)))=true:=by kernel_rfl
theorem k14:((Rows.fnExactSameWorldRow.ifaces == (Tryz.f3.params.toList ++ Rows.fnExactSameWorldSpec.plain.varTypes Tryz.checked.prog).any (Tryz.checked.prog.ifacesRec ·)))=true:=by kernel_rfl
theorem k15:((Rows.fnExactSameWorldRow.mapsOut == Tryz.checked.prog.mapsAmong Tryz.f3.resultTypes.toList))=true:=by kernel_rfl
theorem k16:((Rows.fnExactSameWorldRow.loops == (Tryz.f3.params.toList ++ Rows.fnExactSameWorldSpec.plain.varTypes Tryz.checked.prog).any (Tryz.checked.prog.loopsFrom ·)))=true:=by kernel_rfl
theorem k17:((Rows.fnExactSameWorldRow.wideKeys == (Tryz.f3.params.toList ++ Rows.fnExactSameWorldSpec.plain.varTypes Tryz.checked.prog ++ Tryz.f3.resultTypes.toList).any (Tryz.checked.prog.wideKeysFrom ·)))=true:=by kernel_rfl
theorem k18:(Rows.fnExactSameWorldSpec.vars.all (Tryz.checked.prog.varReadable ·))=true:=by kernel_rfl
theorem k19:(Tryz.f3.resultTypes.all (fun t=>Tryz.checked.prog.readableRec t && decide (t<Tryz.checked.prog.types.size)))=true:=by kernel_rfl
theorem k20:((Rows.fnExactSameWorldRow.ifacesOut == Tryz.f3.resultTypes.toList.any (Tryz.checked.prog.ifacesRec ·)))=true:=by kernel_rfl
theorem k21:((Rows.fnExactSameWorldRow.loopsOut == Tryz.f3.resultTypes.toList.any (Tryz.checked.prog.loopsFrom ·)))=true:=by kernel_rfl
theorem k22:((Rows.fnExactSameWorldRow.plainKeys == Tryz.checked.prog.plainKeys))=true:=facts.k22
theorem k23:(Rows.fnExactSameWorldRow.shortTexts.isNone)=true:=by kernel_rfl
theorem k24:(Tryz.checked.prog.stopsHeard)=true:=facts.k24
theorem k25:(Tryz.checked.prog.mayEnter)=true:=facts.k25
theorem k26:((Rows.fnExactSameWorldRow.lifted == Tryz.checked.prog.liftsFinal))=true:=facts.k26
theorem k27:((Tryz.checked.prog.make == some Rows.fnExactSameWorldRow.make))=true:=facts.k27
theorem k28:((Rows.fnExactSameWorldRow.kinds == (if Rows.fnExactSameWorldRow.domain.isEmpty then [] else Tryz.f3.params.toList.map fun t=>match Tryz.checked.prog.underlying t with|some (.int k)=>some k|_=>none)))=true:=by kernel_rfl
theorem k29:((Rows.fnExactSameWorldRow.pinned == Rows.fnExactSameWorldRow.pinnedBy))=true:=by kernel_rfl
theorem k30:((Rows.fnExactSameWorldRow.veiled == (Tryz.f3.params.toList ++ Rows.fnExactSameWorldSpec.plain.varTypes Tryz.checked.prog ++ Tryz.f3.resultTypes.toList).any (Tryz.checked.prog.veiledRec ·)))=true:=by kernel_rfl
theorem k31:(Rows.fnExactSameWorldRow.veiledFits Tryz.checked.prog Tryz.f3.params.toList (Tryz.f3.params.toList ++ Rows.fnExactSameWorldSpec.plain.varTypes Tryz.checked.prog ++ Tryz.f3.resultTypes.toList))=true:=by kernel_rfl
theorem closed:joinedFacts Tryz.checked.prog 3 Tryz.f3 Rows.fnExactSameWorldSpec Rows.fnExactSameWorldRow=true:=by
 unfold joinedFacts
 exact (b2 (b2 (b2 (b2 (b2 (b2 (b2 (b2 (b2 (b2 (b2 (b2 (b2 (b2 (b2 (b2 (b2 (b2 (b2 (b2 (b2 (b2 (b2 (b2 (b2 (b2 (b2 (b2 (b2 (b2 (b2 k0 k1) k2) k3) k4) k5) k6) k7) k8) k9) k10) k11) k12) k13) k14) k15) k16) k17) k18) k19) k20) k21) k22) k23) k24) k25) k26) k27) k28) k29) k30) k31)
theorem proved:Rows.FnExactSameWorldSaid :=
 OpenClaim.holds_of_wide 3 Tryz.f3 rfl rfl rfl rfl rfl rfl rfl ⟨rfl,rfl,rfl,rfl,rfl⟩ rfl rfl rfl rfl rfl (by as_aux_lemma=>kernel_rfl) Tryz.func3 closed
  (of_decide_eq_true (by as_aux_lemma=>kernel_rfl)) (by as_aux_lemma=>(unfold Func.isWrapper;rw [if_neg (of_decide_eq_false (by kernel_rfl))];exact⟨rfl,rfl⟩))
  (fun os started H enc _=>lifted os started H enc)
end Go.Proofs.YtkpmbocbbgocbaaGreat.fnExactSameWorld
