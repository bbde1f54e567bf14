/- NV1 NV2 NV3 NJ0 NJ2 NJ3 NV4 NV5 NJ1 NV6 NV7. -/
import Derived.Test.YtkpmbocbbgocbaaGreatGa
import Derived.Test.YtkpmbocbbgocbaaGreatB3
import Derived.Test.YtkpmbocbbgocbaaGreatGb
import Derived.Test.YtkpmbocbbgocbaaGreatGm
import Derived.Test.YtkpmbocbbgocbaaGreatGi
import Derived.Test.YtkpmbocbbgocbaaGreatGf
import Derived.Test.YtkpmbocbbgocbaaGreatB5
import Derived.Test.YtkpmbocbbgocbaaGreatB2
import Derived.Lib.SliceRun
import Derived.Test.YtkpmbocbbgocbaaGreatB4
set_option linter.unusedSimpArgs false
set_option linter.unusedVariables false
set_option maxHeartbeats 8000000
set_option maxRecDepth 100000
namespace Go.G8
open Go.RowKit
def newTwo (n:Int):DTwo:=⟨newDisk n,newDisk n⟩
end Go.G8
namespace Go.Proofs.YtkpmbocbbgocbaaGreat
open Go.RowKit Go.G8
theorem sNewNet_c (w:World):Calls Tryz.prog 80 #[] w (Ret w fun v w'=>∃ F,OwNet w.heap.size w' v ⟨[],[]⟩ F):=by
 go_enter Tryz.func80,Tryz.ntmps80
 go_wp2_with fail
 refine bodyPost_ret (v:=.agg #[.slice none 0 0,.slice none 0 0]) (by simp [results,Tryz.results80,go_sem];try rfl) rfl ?_
 exact⟨_,rfl,by exact extT,_,.slice none 0 0,.slice none 0 0,[],[],rfl,⟨[],OwnNs.nil _ _ _ _ _,rfl⟩,⟨OwnI.nil _ _ _ _,rfl⟩,by simp,rfl⟩
theorem sNewTwo_c (w:World) (n:Int):Calls Tryz.prog 273 #[.int .i64 n] w (Ret w fun v w'=>∃ F,OwTwo w.heap.size w' v (newTwo n) F):=by
 go_enter Tryz.func273,Tryz.ntmps273
 go_wp2_with fail
 refine (sNewDisk_c _ n).mono ?_
 rintro e w1 ⟨_,rfl,hx1,g1⟩
 have E1:Ext w w1:=Ext.trans extT hx1
 have hz1:=hx1.size;simp only [World.size_alloc] at hz1
 obtain⟨F1,o1⟩:=g1.ow
 obtain⟨a0,n0,k0,a1,n1,k1,rfl⟩:=o1.rd.shape
 go_wp2_with fail
 refine (sNewDisk_c _ n).mono ?_
 rintro e w2 ⟨_,rfl,hx2,g2⟩
 have E2:Ext w w2:=Ext.trans E1 hx2
 have hz2:=hx2.size
 obtain⟨F2,o2⟩:=g2.ow
 obtain⟨b0,m0,j0,b1,m1,j1,rfl⟩:=o2.rd.shape
 have d1:=o1.low
 have o1:=o1.ext hx2
 have d2:=o2.low
 have KR2:Blk w2 w.heap.size 72 #[.slice none 0 0,.slice none 0 0,.slice none 0 0,.slice none 0 0]:=((Blk.new _ _ _).ext hx1).ext hx2
 obtain⟨CR2,FR2,LR2⟩:=KR2.cfl
 go_wp2_with fail
 refine bodyPost_ret (by simp [results,Tryz.results273,go_sem,CR2,FR2,LR2];try rfl) rfl ?_
 have C1:∀ W,Chg (w.heap.size+1) W ((((W.setCell ⟨w.heap.size,0,none⟩ (.slice a0 n0 k0)).setCell ⟨w.heap.size,1,none⟩ (.slice a1 n1 k1)).setCell ⟨w.heap.size,2,none⟩ (.slice b0 m0 j0)).setCell ⟨w.heap.size,3,none⟩ (.slice b1 m1 j1)):=fun W=>((((Chg.refl _ _).setLow (by simp) _).setLow (by simp) _).setLow (by simp) _).setLow (by simp) _
 refine⟨_,rfl,by exact extT,_,[.slice a0 n0 k0,.slice a1 n1 k1],[.slice b0 m0 j0,.slice b1 m1 j1],F1,F2,rfl,rfl,rfl,(OwDisk.keepK (o1.monoK (by simp)) (C1 _)).monoK (by simp),(OwDisk.keepK (o2.monoK oM) (C1 _)).monoK (by simp),?_,rfl⟩
 refine List.Pairwise.cons (fun b hb k hk hk2=>?_) (List.Pairwise.cons (fun b hb=>by cases hb) List.Pairwise.nil)
 simp only [List.mem_cons,List.not_mem_nil,or_false] at hb
 subst hb
 have:=d1 k hk;have:=d2 k hk2
 omega
theorem newNet_c (w:World):Calls Tryz.prog 75 #[] w (Ret w fun v w'=>∃ F,OwNet w.heap.size w' v ⟨[],[]⟩ F):=by
 go_enter Tryz.func75,Tryz.ntmps75
 go_wp2_with fail
 refine bodyPost_ret (v:=.agg #[.slice none 0 0,.slice none 0 0]) (by simp [results,Tryz.results75,go_sem];try rfl) rfl ?_
 exact⟨_,rfl,by exact extT,_,.slice none 0 0,.slice none 0 0,[],[],rfl,⟨[],OwnNs.nil _ _ _ _ _,rfl⟩,⟨OwnI.nil _ _ _ _,rfl⟩,by simp,rfl⟩
theorem newTwo_c (w:World) (n:Int):Calls Tryz.prog 268 #[.int .i64 n] w (Ret w fun v w'=>∃ F,OwTwo w.heap.size w' v (newTwo n) F):=by
 go_enter Tryz.func268,Tryz.ntmps268
 go_wp2_with fail
 refine (newDisk_c _ n).mono ?_
 rintro e w1 ⟨_,rfl,hx1,g1⟩
 have E1:Ext w w1:=Ext.trans extT hx1
 have hz1:=hx1.size;simp only [World.size_alloc] at hz1
 obtain⟨F1,o1⟩:=g1.ow
 obtain⟨a0,n0,k0,a1,n1,k1,rfl⟩:=o1.rd.shape
 go_wp2_with fail
 refine (newDisk_c _ n).mono ?_
 rintro e w2 ⟨_,rfl,hx2,g2⟩
 have E2:Ext w w2:=Ext.trans E1 hx2
 have hz2:=hx2.size
 obtain⟨F2,o2⟩:=g2.ow
 obtain⟨b0,m0,j0,b1,m1,j1,rfl⟩:=o2.rd.shape
 have d1:=o1.low
 have o1:=o1.ext hx2
 have d2:=o2.low
 have KR2:Blk w2 w.heap.size 72 #[.slice none 0 0,.slice none 0 0,.slice none 0 0,.slice none 0 0]:=((Blk.new _ _ _).ext hx1).ext hx2
 obtain⟨CR2,FR2,LR2⟩:=KR2.cfl
 go_wp2_with fail
 refine bodyPost_ret (by simp [results,Tryz.results268,go_sem,CR2,FR2,LR2];try rfl) rfl ?_
 have C1:∀ W,Chg (w.heap.size+1) W ((((W.setCell ⟨w.heap.size,0,none⟩ (.slice a0 n0 k0)).setCell ⟨w.heap.size,1,none⟩ (.slice a1 n1 k1)).setCell ⟨w.heap.size,2,none⟩ (.slice b0 m0 j0)).setCell ⟨w.heap.size,3,none⟩ (.slice b1 m1 j1)):=fun W=>((((Chg.refl _ _).setLow (by simp) _).setLow (by simp) _).setLow (by simp) _).setLow (by simp) _
 refine⟨_,rfl,by exact extT,_,[.slice a0 n0 k0,.slice a1 n1 k1],[.slice b0 m0 j0,.slice b1 m1 j1],F1,F2,rfl,rfl,rfl,(OwDisk.keepK (o1.monoK (by simp)) (C1 _)).monoK (by simp),(OwDisk.keepK (o2.monoK oM) (C1 _)).monoK (by simp),?_,rfl⟩
 refine List.Pairwise.cons (fun b hb k hk hk2=>?_) (List.Pairwise.cons (fun b hb=>by cases hb) List.Pairwise.nil)
 simp only [List.mem_cons,List.not_mem_nil,or_false] at hb
 subst hb
 have:=d1 k hk;have:=d2 k hk2
 omega
end Go.Proofs.YtkpmbocbbgocbaaGreat
namespace Go.G8
open Go.RowKit
open Go.Proofs.YtkpmbocbbgocbaaGreat
def bwOk (t:DTwo) (at_:Int) (row:List Int):Bool:=twoOk t && (decide (0<(withSum row).length) && (wrOk t.A at_ (withSum row) && wrOk t.B at_ (withSum row)))
def bwD (t:DTwo) (at_:Int) (row:List Int):DTwo:=⟨wrD t.A at_ (withSum row),wrD t.B at_ (withSum row)⟩
theorem bwOk_parts {t:DTwo} {at_:Int} {row:List Int} (h:bwOk t at_ row=true):twoOk t=true∧0<(withSum row).length∧wrOk t.A at_ (withSum row)=true∧wrOk t.B at_ (withSum row)=true:=by
 simpa [bwOk,Bool.and_eq_true] using h
end Go.G8
namespace Go.Proofs.YtkpmbocbbgocbaaGreat
open Go.RowKit Go.G8
theorem sBothWrote_k {w:World} {v u:Value} {t:DTwo} {row:List Int} (h:RdTwo w v t) (hu:Ints 1 w u row) (at_:Int) (ok:bwOk t at_ row=true):Calls Tryz.prog 352 #[v,.int .i64 at_,u] w (Ret w fun r w'=>∃ v',r=.tuple #[v',.bool true]∧∃ F,OwTwo w.heap.size w' v' (bwD t at_ row) F):=by
 obtain⟨p0,p1,rfl,l0,l1,g0,g1⟩:=h
 obtain⟨a0,n0,k0,a1,n1,k1,e0⟩:=g0.shape
 obtain rfl:=agg_inj (M:=[_,_]) e0
 obtain⟨b0,m0,j0,b1,m1,j1,e1⟩:=g1.shape
 obtain rfl:=agg_inj (M:=[_,_]) e1
 clear e0 e1
 obtain⟨ok1,ok2,ok3,ok4⟩:=bwOk_parts ok
 have O1:=Lib.hid ok1;have O2:=Lib.hid ok2;have O3:=Lib.hid ok3;have O4:=Lib.hid ok4
 clear ok ok1 ok2 ok3 ok4
 obtain⟨W1,hW1⟩:∃ W1,W1=(w.alloc (.cells #[.slice a0 n0 k0,.slice a1 n1 k1,.slice b0 m0 j0,.slice b1 m1 j1] 72)).alloc (.cells #[.slice none 0 0,.slice none 0 0,.slice none 0 0,.slice none 0 0] 72):=⟨_,rfl⟩
 have E1:Ext w W1:=by rw [hW1];exact ((Ext.refl _).alloc _).alloc _
 have KT1:Blk W1 w.heap.size 72 #[.slice a0 n0 k0,.slice a1 n1 k1,.slice b0 m0 j0,.slice b1 m1 j1]:=by rw [hW1];exact (Blk.new _ _ _).alloc _
 have KR1:Blk W1 (w.heap.size+1) 72 #[.slice none 0 0,.slice none 0 0,.slice none 0 0,.slice none 0 0]:=by rw [hW1];exact Blk.new2 _ _ _ _
 have z1:W1.heap.size=w.heap.size+1+1:=by rw [hW1];simp
 have HW1:=Lib.hid hW1
 clear hW1
 go_enter Tryz.func352,Tryz.ntmps352
 go_wp2_with fail
 rw [← HW1.out]
 have CT1:=KT1.cell;have LT1:=KT1.lt
 go_wp2_with fail
 obtain⟨d0,d1⟩:=t
 obtain⟨h00,h01⟩:=RdDisk.get g0
 obtain⟨h10,h11⟩:=RdDisk.get g1
 refine (sTwoOk_c _ _ d0.Kept _ d0.Wait _ d1.Kept _ d1.Wait (h00.ext E1) (h01.ext E1) (h10.ext E1) (h11.ext E1)).mono ?_
 rintro e w2 ⟨rfl,x2⟩
 rw [show twoOk (⟨⟨d0.Kept,d0.Wait⟩,⟨d1.Kept,d1.Wait⟩⟩:DTwo)=true from O1.out]
 have E2:Ext w w2:=E1.trans x2;have z2:=x2.size
 have KT2:=KT1.ext x2;have KR2:=KR1.ext x2
 clear CT1 LT1;have CT2:=KT2.cell;have LT2:=KT2.lt
 go_wp2_with fail
 refine (sWithSum_c _ _ row (hu.ext E2)).mono ?_
 rintro e w3 ⟨_,rfl,x3,o3⟩
 have E3:Ext w w3:=E2.trans x3;have z3:=x3.size
 have KT3:=KT2.ext x3;have KR3:=KR2.ext x3
 clear CT2 LT2;have CT3:=KT3.cell;have LT3:=KT3.lt
 have i3:=o3.ints
 obtain⟨ua,uc,rfl,huc,-,-⟩:=i3.one
 have hn:decide (((withSum row).length:Int)=0)=false:=decide_eq_false (by have:=O2.out;omega)
 have hn2:((((withSum row).length:Nat):Int) == 0)=false:=beq_eq_false_iff_ne.2 (by have:=O2.out;omega)
 go_wp2_with fail
 refine (sWrote_k (g0.ext E3) i3 at_).mono ?_
 rintro e w4 ⟨_,rfl,x4,v4,rfl,F4,o4⟩
 have o4:=o4
 rw [O3.out]
 have d4:=o4.low
 obtain⟨c0,r0,s0,c1,r1,s1,rfl⟩:=o4.rd.shape
 have E4:Ext w w4:=E3.trans x4;have z4:=x4.size
 have KT4:=KT3.ext x4;have KR4:=KR3.ext x4;have i4:=i3.ext x4
 clear CT3 LT3;have CT4:=KT4.cell;have LT4:=KT4.lt
 go_wp2_with fail
 refine (sWrote_k (g1.ext extT) (i4.ext extT) at_).mono ?_
 rintro e w5 ⟨_,rfl,x5,v5,rfl,F5,o5⟩
 rw [O4.out]
 have d5:=o5.low
 obtain⟨e0,f0,h0,e1,f1,h1,rfl⟩:=o5.rd.shape
 have X5:Ext w4 w5:=Ext.trans extT x5
 have E5:Ext w w5:=E4.trans X5
 have z5:=x5.size;(try simp only [World.size_alloc,World.size_setCell] at z5 d5)
 have KT5:=KT4.ext X5;have KR5:=KR4.ext X5
 have K95:Blk w5 w4.heap.size 70 #[.slice c0 r0 s0,.slice c1 r1 s1]:=Blk.ext bD x5
 have o4:=o4.ext X5
 clear CT4 LT4;have CT5:=KT5.cell;have LT5:=KT5.lt;have CR5:=KR5.cell;have FR5:=KR5.frozen;have LR5:=KR5.lt;have C95:=K95.cell;have L95:=K95.lt
 go_wp2_with fail
 refine bodyPost_ret (by simp [results,Tryz.results352,go_sem,CR5,FR5,LR5];try rfl) rfl ?_
 refine⟨_,rfl,by exact extT,_,rfl,_,[.slice c0 r0 s0,.slice c1 r1 s1],[.slice e0 f0 h0,.slice e1 f1 h1],F4,F5,rfl,rfl,rfl,?_,?_,?_,rfl⟩
 ·
  exact (OwDisk.keepK (OwDisk.monoK (B':=w.heap.size+2) o4 oM) ((((((Chg.refl _ _).setLow oM _).setLow oM _).setLow oM _).setLow oM _).alloc _)).monoK oM
 ·
  exact (OwDisk.keepK (OwDisk.monoK (B':=w.heap.size+2) o5 (by (try simp only [World.size_alloc,World.size_setCell]);omega)) ((((((Chg.refl _ _).setLow oM _).setLow oM _).setLow oM _).setLow oM _).alloc _)).monoK oM
 refine List.Pairwise.cons (fun b hb k hk hk2=>?_) (List.Pairwise.cons (fun b hb=>by cases hb) List.Pairwise.nil)
 simp only [List.mem_cons,List.not_mem_nil,or_false] at hb
 subst hb
 have:=d4 k hk;have:=d5 k hk2
 omega
end Go.Proofs.YtkpmbocbbgocbaaGreat
namespace Go.G8
open Go.RowKit
open Go.Proofs.YtkpmbocbbgocbaaGreat
def bsD (t:DTwo):DTwo:=⟨fallenDisk true [] t.A,fallenDisk true [] t.B⟩
end Go.G8
namespace Go.Proofs.YtkpmbocbbgocbaaGreat
open Go.RowKit Go.G8
theorem sBothSynced_k {w:World} {v:Value} {t:DTwo} (h:RdTwo w v t) (ok:twoOk t=true):Calls Tryz.prog 353 #[v] w (Ret w fun r w'=>∃ F,OwTwo w.heap.size w' r (bsD t) F):=by
 obtain⟨p0,p1,rfl,l0,l1,g0,g1⟩:=h
 obtain⟨a0,n0,k0,a1,n1,k1,e0⟩:=g0.shape
 obtain rfl:=agg_inj (M:=[_,_]) e0
 obtain⟨b0,m0,j0,b1,m1,j1,e1⟩:=g1.shape
 obtain rfl:=agg_inj (M:=[_,_]) e1
 clear e0 e1
 have O1:=Lib.hid ok;clear ok
 obtain⟨W1,hW1⟩:∃ W1,W1=(w.alloc (.cells #[.slice a0 n0 k0,.slice a1 n1 k1,.slice b0 m0 j0,.slice b1 m1 j1] 72)).alloc (.cells #[.slice none 0 0,.slice none 0 0,.slice none 0 0,.slice none 0 0] 72):=⟨_,rfl⟩
 have E1:Ext w W1:=by rw [hW1];exact ((Ext.refl _).alloc _).alloc _
 have KT1:Blk W1 w.heap.size 72 #[.slice a0 n0 k0,.slice a1 n1 k1,.slice b0 m0 j0,.slice b1 m1 j1]:=by rw [hW1];exact (Blk.new _ _ _).alloc _
 have KR1:Blk W1 (w.heap.size+1) 72 #[.slice none 0 0,.slice none 0 0,.slice none 0 0,.slice none 0 0]:=by rw [hW1];exact Blk.new2 _ _ _ _
 have z1:W1.heap.size=w.heap.size+1+1:=by rw [hW1];simp
 have HW1:=Lib.hid hW1
 clear hW1
 go_enter Tryz.func353,Tryz.ntmps353
 go_wp2_with fail
 rw [← HW1.out]
 have CT1:=KT1.cell;have LT1:=KT1.lt
 go_wp2_with fail
 obtain⟨d0,d1⟩:=t
 obtain⟨h00,h01⟩:=RdDisk.get g0
 obtain⟨h10,h11⟩:=RdDisk.get g1
 refine (sTwoOk_c _ _ d0.Kept _ d0.Wait _ d1.Kept _ d1.Wait (h00.ext E1) (h01.ext E1) (h10.ext E1) (h11.ext E1)).mono ?_
 rintro e w2 ⟨rfl,x2⟩
 rw [show twoOk (⟨⟨d0.Kept,d0.Wait⟩,⟨d1.Kept,d1.Wait⟩⟩:DTwo)=true from O1.out]
 have E2:Ext w w2:=E1.trans x2;have z2:=x2.size
 have KT2:=KT1.ext x2;have KR2:=KR1.ext x2
 clear CT1 LT1
 have h00:=h00.ext E2;have h01:=h01.ext E2;have h10:=h10.ext E2;have h11:=h11.ext E2
 go_upto_region 3 with (fail)
 refine wp_region_held_drew (S:=fun w'=>Ext w w'∧Blk w' w.heap.size 72 #[.slice a0 n0 k0,.slice a1 n1 k1,.slice b0 m0 j0,.slice b1 m1 j1]) (by kernel_rfl) (by (try dsimp only);exact⟨by exact extT,by exact blkT⟩) (fun hHeld=>?_)
 refine wt 0 ?_
 (try simp only [redA,Act.put])
 refine wtq 1 (fun _ h=>h.2.cell) ?_
 (try simp only [redA,Act.put])
 refine wt 3 ?_
 (try simp only [redA,Act.put])
 refine wtq 4 (fun _ h=>h.2.cell) ?_
 (try simp only [redA,Act.put])
 refine wr1 2 fun Kz hKz=>?_
 (try simp only [redA])
 go_simp
 go_at_call 407
 refine (sSynced_c _ _ d0.Kept _ d0.Wait (h00.ext extT) (h01.ext extT)).mono ?_
 rintro e w3 ⟨_,rfl,x3,g3⟩
 have E3:Ext w2 w3:=Ext.trans extT x3;have KT3:=KT2.ext E3;have Y3:Ext w w3:=E2.trans E3;have z3:=x3.size;(try simp only [size_drew] at z3)
 obtain⟨F3,o3⟩:=g3.ow
 have d3:=o3.low;(try simp only [size_drew] at d3)
 obtain⟨c0,c1,c2,c3,c4,c5,rfl⟩:=o3.rd.shape
 clear g3
 refine hKz.out _ _ (by (try dsimp only);exact⟨by exact extT,by exact blkT⟩) (fun hHeld=>?_)
 clear hKz Kz
 (try simp only [redA,Act.put])
 refine wr1 5 fun Kz hKz=>?_
 (try simp only [redA])
 go_simp
 go_at_call 407
 refine (sSynced_c _ _ d1.Kept _ d1.Wait (h10.ext extT) (h11.ext extT)).mono ?_
 rintro e w4 ⟨_,rfl,x4,g4⟩
 have E4:Ext w2 w4:=Ext.trans extT x4;have KT4:=KT2.ext E4;have Y4:Ext w w4:=E2.trans E4;have z4:=x4.size;(try simp only [size_drew] at z4)
 obtain⟨F4,o4⟩:=g4.ow
 have d4:=o4.low;(try simp only [size_drew] at d4)
 obtain⟨e0,e1,e2,e3,e4,e5,rfl⟩:=o4.rd.shape
 clear g4
 refine hKz.out _ _ (by (try dsimp only);exact⟨by exact extT,by exact blkT⟩) (fun hHeld=>?_)
 clear hKz Kz
 (try simp only [redA,Act.put])
 refine wt 6 ?_
 (try simp only [redA,Act.put])
 refine wr1 7 fun Kz hKz=>?_
 (try simp only [redA])
 rw [if_pos (by rfl)]
 have KR4:Blk w4 (w.heap.size+1) 72 #[.slice none 0 0,.slice none 0 0,.slice none 0 0,.slice none 0 0]:=KR2.ext E4
 refine wp_store_row 72 (.tmp 2) (.tmp 13) (by rfl) _ #[.slice c0 c1 c2,.slice c3 c4 c5,.slice e0 e1 e2,.slice e3 e4 e5] (by rfl) (by rfl) 72 _ (show Blk _ (w.heap.size+1) 72 #[.slice none 0 0,.slice none 0 0,.slice none 0 0,.slice none 0 0] from by exact blkT) (by kernel_rfl) rfl (by kernel_rfl) ?_
 refine hKz.out _ _ (by (try dsimp only);exact⟨by exact extT,by exact blkT⟩) (fun hHeld=>?_)
 clear hKz Kz
 (try simp only [redA,Act.put])
 refine wpAnyH_done (by kernel_rfl) ?_ _
 go_wp2_with fail
 have LR4:=KR4.lt
 refine bodyPost_ret (v:=.agg #[.slice c0 c1 c2,.slice c3 c4 c5,.slice e0 e1 e2,.slice e3 e4 e5]) (by first|exact results_cell_row rfl _ _ (w.heap.size+1) _ _ _ _ (by rfl) (Blk.row KR4 _) Tryz.underlying72 rfl (by kernel_rfl)) rfl ?_
 have o3':=o3.ext (Ext.trans extT x4)
 refine⟨_,rfl,by exact extT,_,[.slice c0 c1 c2,.slice c3 c4 c5],[.slice e0 e1 e2,.slice e3 e4 e5],F3,F4,rfl,rfl,rfl,?_,?_,?_,rfl⟩
 ·
  exact (OwDisk.keepK (OwDisk.monoK (B':=w.heap.size+2) o3' (by (try simp only [size_drew]);omega)) ((Chg.refl _ _).setRow (Or.inl oM) _)).monoK oM
 ·
  exact (OwDisk.keepK (OwDisk.monoK (B':=w.heap.size+2) o4 (by (try simp only [size_drew]);omega)) ((Chg.refl _ _).setRow (Or.inl oM) _)).monoK oM
 refine List.Pairwise.cons (fun b hb k hk hk2=>?_) (List.Pairwise.cons (fun b hb=>by cases hb) List.Pairwise.nil)
 simp only [List.mem_cons,List.not_mem_nil,or_false] at hb
 subst hb
 have:=d3 k hk;have:=d4 k hk2
 omega
theorem disks_c (w:World) (a0 a3 b0 b3:Option Addr) (a1 a2 a4 a5 b1 b2 b4 b5:Nat):Calls Tryz.prog 237 #[.agg #[.slice a0 a1 a2,.slice a3 a4 a5,.slice b0 b1 b2,.slice b3 b4 b5]] w (RetV w (.agg #[.slice a0 a1 a2,.slice a3 a4 a5,.slice b0 b1 b2,.slice b3 b4 b5])):=by
 go_enter Tryz.func237,Tryz.ntmps237
 go_wp2_with fail
 refine bodyPost_ret (by simp [results,Tryz.results237,go_sem];try rfl) rfl ?_
 exact⟨rfl,by exact extT⟩
theorem twoOf_c (w:World) (a0 a3 b0 b3:Option Addr) (a1 a2 a4 a5 b1 b2 b4 b5:Nat):Calls Tryz.prog 402 #[.agg #[.slice a0 a1 a2,.slice a3 a4 a5,.slice b0 b1 b2,.slice b3 b4 b5]] w (RetV w (.agg #[.slice a0 a1 a2,.slice a3 a4 a5,.slice b0 b1 b2,.slice b3 b4 b5])):=by
 go_enter Tryz.func402,Tryz.ntmps402
 go_wp2_with fail
 refine bodyPost_ret (by simp [results,Tryz.results402,go_sem];try rfl) rfl ?_
 exact⟨rfl,by exact extT⟩
theorem bothWrote_k {w:World} {v u:Value} {t:DTwo} {row:List Int} (h:RdTwo w v t) (hu:Ints 1 w u row) (at_:Int) (ok:bwOk t at_ row=true):Calls Tryz.prog 348 #[v,.int .i64 at_,u] w (Ret w fun r w'=>∃ v',r=.tuple #[v',.bool true]∧∃ F,OwTwo w.heap.size w' v' (bwD t at_ row) F):=by
 obtain⟨p0,p1,rfl,l0,l1,g0,g1⟩:=h
 obtain⟨a0,a1,a2,a3,a4,a5,e0⟩:=g0.shape
 obtain rfl:=agg_inj (M:=[_,_]) e0
 obtain⟨b0,b1,b2,b3,b4,b5,e1⟩:=g1.shape
 obtain rfl:=agg_inj (M:=[_,_]) e1
 clear e0 e1
 obtain⟨ok1,ok2,ok3,ok4⟩:=bwOk_parts ok
 have O1:=Lib.hid ok1;have O2:=Lib.hid ok2;have O3:=Lib.hid ok3;have O4:=Lib.hid ok4
 clear ok ok1 ok2 ok3 ok4
 have qT:∀ (w:World) (a:Option Addr) (n c n' c':Nat),(binOp .eql 62 (.slice a n c) (.slice none n' c')).run Tryz.prog w=.ok (.bool a.isNone) w:=fun w a n c n' c'=>Lib.run_eql_slice_nil w _ _ a n c n' c' Tryz.underlying62
 obtain⟨W1,hW1⟩:∃ W1,W1=(w.alloc (.cells #[.slice a0 a1 a2,.slice a3 a4 a5,.slice b0 b1 b2,.slice b3 b4 b5] 72)).alloc (.cells #[.slice none 0 0,.slice none 0 0,.slice none 0 0,.slice none 0 0] 72):=⟨_,rfl⟩
 have E1:Ext w W1:=by rw [hW1];exact ((Ext.refl _).alloc _).alloc _
 have KT1:Blk W1 w.heap.size 72 #[.slice a0 a1 a2,.slice a3 a4 a5,.slice b0 b1 b2,.slice b3 b4 b5]:=by rw [hW1];exact (Blk.new _ _ _).alloc _
 have KR1:Blk W1 (w.heap.size+1) 72 #[.slice none 0 0,.slice none 0 0,.slice none 0 0,.slice none 0 0]:=by rw [hW1];exact Blk.new2 _ _ _ _
 have z1:W1.heap.size=w.heap.size+1+1:=by rw [hW1];simp
 have HW1:=Lib.hid hW1
 clear hW1
 go_enter Tryz.func348,Tryz.ntmps348
 go_wp2_with fail
 rw [← HW1.out]
 have CT1:=KT1.cell;have LT1:=KT1.lt
 go_wp2_with fail
 obtain⟨d0,d1⟩:=t
 obtain⟨h00,h01⟩:=RdDisk.get g0
 obtain⟨h10,h11⟩:=RdDisk.get g1
 refine (twoOk_c _ _ d0.Kept _ d0.Wait _ d1.Kept _ d1.Wait (h00.ext E1) (h01.ext E1) (h10.ext E1) (h11.ext E1)).mono ?_
 rintro e w2 ⟨rfl,x2⟩
 rw [show twoOk (⟨⟨d0.Kept,d0.Wait⟩,⟨d1.Kept,d1.Wait⟩⟩:DTwo)=true from O1.out]
 have E2:Ext w w2:=E1.trans x2;have z2:=x2.size
 have KT2:=KT1.ext x2;have KR2:=KR1.ext x2
 clear CT1 LT1 h00 h01 h10 h11;have CT2:=KT2.cell;have LT2:=KT2.lt
 go_wp2_with fail
 refine (withSum_c _ _ row (hu.ext E2)).mono ?_
 rintro e w3 ⟨_,rfl,x3,o3⟩
 have E3:Ext w w3:=E2.trans x3;have z3:=x3.size
 have KT3:=KT2.ext x3;have KR3:=KR2.ext x3
 clear CT2 LT2;have CT3:=KT3.cell;have LT3:=KT3.lt
 have i3:=o3.ints
 obtain⟨ua,uc,rfl,huc,-,hun⟩:=i3.one
 obtain⟨x9,b9,o9,-,rfl,-,-⟩:=hun 0 O2.out
 clear hun x9
 go_wp2_with fail
 refine (disks_c _ _ _ _ _ _ _ _ _ _ _ _ _).mono ?_
 rintro e w4 ⟨rfl,x4⟩
 have E4:Ext w w4:=E3.trans x4;have z4:=x4.size
 have KR4:=KR3.ext x4;have i4:=i3.ext x4
 clear CT3 LT3
 go_wp2_with fail
 go_loopw [27] (fun i wr=>Ext w4 wr∧((i=.int .i64 0∧Blk wr (w4.heap.size) 306 #[.slice a0 a1 a2,.slice a3 a4 a5,.slice b0 b1 b2,.slice b3 b4 b5]) ∨ (i=.int .i64 1∧∃ c0 c1 c2 c3 c4 c5 F,Blk wr (w4.heap.size) 306 #[.slice c0 c1 c2,.slice c3 c4 c5,.slice b0 b1 b2,.slice b3 b4 b5]∧OwDisk (w4.heap.size+1) wr (.agg #[.slice c0 c1 c2,.slice c3 c4 c5]) (wrD d0 at_ (withSum row)) F) ∨ (i=.int .i64 2∧∃ c0 c1 c2 c3 c4 c5 F e0 e1 e2 e3 e4 e5 G,Blk wr (w4.heap.size) 306 #[.slice c0 c1 c2,.slice c3 c4 c5,.slice e0 e1 e2,.slice e3 e4 e5]∧OwDisk (w4.heap.size+1) wr (.agg #[.slice c0 c1 c2,.slice c3 c4 c5]) (wrD d0 at_ (withSum row)) F∧OwDisk (w4.heap.size+1) wr (.agg #[.slice e0 e1 e2,.slice e3 e4 e5]) (wrD d1 at_ (withSum row)) G∧∀ k,k ∈ F→k ∈ G→False))) (fun i _=>2 - (intOf i).toNat)
 case atStart=>exact⟨by exact extT,Or.inl ⟨rfl,Blk.cast (by exact blkT) (by first|rfl|simp)⟩⟩
 case round =>
  obtain⟨x,hcase⟩:=hrel
  have zx:=x.size
  rcases hcase with ⟨rfl,KA⟩|⟨rfl,c0,c1,c2,c3,c4,c5,F,KA,oc⟩|⟨rfl,c0,c1,c2,c3,c4,c5,F,e0,e1,e2,e3,e4,e5,G,KA,oc,oe,hd⟩
  ·
   have hix:∀ W:World,(Instr.index 306 (.agg #[.slice a0 a1 a2,.slice a3 a4 a5,.slice b0 b1 b2,.slice b3 b4 b5]) (.int .i64 0)).run Tryz.prog W=.ok (.agg #[.slice a0 a1 a2,.slice a3 a4 a5]) W:=fun _=>rfl
   have CA:=KA.cell;have LA:=KA.lt;have FA:=KA.frozen
   go_wp2_with fail
   refine (wrote_k (g0.ext extT) (i4.ext extT) at_).mono ?_
   rintro e w5 ⟨_,rfl,x5,v5,rfl,F5,o5⟩
   rw [O3.out]
   have d5:=o5.low;(try simp only [World.size_alloc,World.size_setCell] at d5)
   have o5:=OwDisk.monoK (B':=w4.heap.size+1) o5 (by (try simp only [World.size_alloc,World.size_setCell]);omega)
   obtain⟨c0,c1,c2,c3,c4,c5,rfl⟩:=o5.rd.shape
   have X5:Ext wr w5:=Ext.trans extT x5
   have z5:=X5.size
   have KA5:=KA.ext X5;clear CA FA LA;have CA5:=KA5.cell;have LA5:=KA5.lt;have FA5:=KA5.frozen
   clear x5
   go_wp2_with fail
   go_roundw
   case rel =>
    refine⟨by exact extT,Or.inr (Or.inl ⟨by go_num,c0,c1,c2,c3,c4,c5,F5,?_,?_⟩)⟩
    ·
     exact Blk.cast (by exact blkT) (by first|rfl|simp)
    exact OwDisk.keepK o5 chgT
   case measure=>simp [intOf]
  ·
   have ocl:=fun k hk=>(oc.low k hk).2
   have hix:∀ W:World,(Instr.index 306 (.agg #[.slice a0 a1 a2,.slice a3 a4 a5,.slice b0 b1 b2,.slice b3 b4 b5]) (.int .i64 1)).run Tryz.prog W=.ok (.agg #[.slice b0 b1 b2,.slice b3 b4 b5]) W:=fun _=>rfl
   have CA:=KA.cell;have LA:=KA.lt;have FA:=KA.frozen
   go_wp2_with fail
   refine (wrote_k (g1.ext extT) (i4.ext extT) at_).mono ?_
   rintro e w5 ⟨_,rfl,x5,v5,rfl,F5,o5⟩
   rw [O4.out]
   have d5:=o5.low;(try simp only [World.size_alloc,World.size_setCell] at d5)
   have o5:=OwDisk.monoK (B':=w4.heap.size+1) o5 (by (try simp only [World.size_alloc,World.size_setCell]);omega)
   obtain⟨e0,e1,e2,e3,e4,e5,rfl⟩:=o5.rd.shape
   have X5:Ext wr w5:=Ext.trans extT x5
   have z5:=X5.size
   have KA5:=KA.ext X5;clear CA FA LA;have CA5:=KA5.cell;have LA5:=KA5.lt;have FA5:=KA5.frozen
   clear x5
   go_wp2_with fail
   go_roundw
   case rel =>
    refine⟨by exact extT,Or.inr (Or.inr ⟨by go_num,c0,c1,c2,c3,c4,c5,F,e0,e1,e2,e3,e4,e5,F5,?_,?_,?_,?_⟩)⟩
    ·
     exact Blk.cast (by exact blkT) (by first|rfl|simp)
    ·
     exact OwDisk.keepK oc chgT
    ·
     exact OwDisk.keepK o5 chgT
    exact fun k h1 h2=>by have:=ocl k h1;have:=d5 k h2;omega
   case measure=>simp [intOf]
  have CA:=KA.cell;have LA:=KA.lt;have FA:=KA.frozen
  have KR9:=KR4.ext x;have CR9:=KR9.cell;have LR9:=KR9.lt;have FR9:=KR9.frozen
  go_wp2_with fail
  refine (twoOf_c _ _ _ _ _ _ _ _ _ _ _ _ _).mono ?_
  rintro e wz ⟨rfl,xz⟩
  have KRz:=KR9.ext xz;have CRz:=KRz.cell;have LRz:=KRz.lt;have FRz:=KRz.frozen
  have oc:=OwDisk.keepK oc (Chg.ext (Chg.refl _ _) xz);have oe:=OwDisk.keepK oe (Chg.ext (Chg.refl _ _) xz)
  have EW:Ext w wz:=(E4.trans x).trans xz
  clear CA FA LA CR9 LR9 FR9
  go_wp2_with fail
  refine bodyPost_ret (by simp [results,Tryz.results348,go_sem,CRz,FRz,LRz];try rfl) rfl ?_
  refine⟨_,rfl,by exact extT,_,rfl,_,[.slice c0 c1 c2,.slice c3 c4 c5],[.slice e0 e1 e2,.slice e3 e4 e5],F,G,rfl,rfl,rfl,?_,?_,?_,rfl⟩
  ·
   exact (OwDisk.keepK oc chgT).monoK oM
  ·
   exact (OwDisk.keepK oe chgT).monoK oM
  refine List.Pairwise.cons (fun b hb k hk hk2=>?_) (List.Pairwise.cons (fun b hb=>by cases hb) List.Pairwise.nil)
  simp only [List.mem_cons,List.not_mem_nil,or_false] at hb
  subst hb
  exact hd k hk hk2
theorem bothSynced_k {w:World} {v:Value} {t:DTwo} (h:RdTwo w v t) (ok:twoOk t=true):Calls Tryz.prog 349 #[v] w (Ret w fun r w'=>∃ F,OwTwo w.heap.size w' r (bsD t) F):=by
 obtain⟨p0,p1,rfl,l0,l1,g0,g1⟩:=h
 obtain⟨a0,a1,a2,a3,a4,a5,e0⟩:=g0.shape
 obtain rfl:=agg_inj (M:=[_,_]) e0
 obtain⟨b0,b1,b2,b3,b4,b5,e1⟩:=g1.shape
 obtain rfl:=agg_inj (M:=[_,_]) e1
 clear e0 e1
 have O1:=Lib.hid ok;clear ok
 obtain⟨W1,hW1⟩:∃ W1,W1=(w.alloc (.cells #[.slice a0 a1 a2,.slice a3 a4 a5,.slice b0 b1 b2,.slice b3 b4 b5] 72)).alloc (.cells #[.slice none 0 0,.slice none 0 0,.slice none 0 0,.slice none 0 0] 72):=⟨_,rfl⟩
 have E1:Ext w W1:=by rw [hW1];exact ((Ext.refl _).alloc _).alloc _
 have KT1:Blk W1 w.heap.size 72 #[.slice a0 a1 a2,.slice a3 a4 a5,.slice b0 b1 b2,.slice b3 b4 b5]:=by rw [hW1];exact (Blk.new _ _ _).alloc _
 have KR1:Blk W1 (w.heap.size+1) 72 #[.slice none 0 0,.slice none 0 0,.slice none 0 0,.slice none 0 0]:=by rw [hW1];exact Blk.new2 _ _ _ _
 have z1:W1.heap.size=w.heap.size+1+1:=by rw [hW1];simp
 have HW1:=Lib.hid hW1
 clear hW1
 go_enter Tryz.func349,Tryz.ntmps349
 go_wp2_with fail
 rw [← HW1.out]
 have CT1:=KT1.cell;have LT1:=KT1.lt
 go_wp2_with fail
 obtain⟨d0,d1⟩:=t
 obtain⟨h00,h01⟩:=RdDisk.get g0
 obtain⟨h10,h11⟩:=RdDisk.get g1
 refine (twoOk_c _ _ d0.Kept _ d0.Wait _ d1.Kept _ d1.Wait (h00.ext E1) (h01.ext E1) (h10.ext E1) (h11.ext E1)).mono ?_
 rintro e w2 ⟨rfl,x2⟩
 rw [show twoOk (⟨⟨d0.Kept,d0.Wait⟩,⟨d1.Kept,d1.Wait⟩⟩:DTwo)=true from O1.out]
 have E2:Ext w w2:=E1.trans x2;have z2:=x2.size
 have KT2:=KT1.ext x2;have KR2:=KR1.ext x2
 clear CT1 LT1;have CT2:=KT2.cell;have LT2:=KT2.lt
 have h00:=h00.ext E2;have h01:=h01.ext E2;have h10:=h10.ext E2;have h11:=h11.ext E2
 go_wp2_with fail
 refine (disks_c _ _ _ _ _ _ _ _ _ _ _ _ _).mono ?_
 rintro e w4 ⟨rfl,x4⟩
 have E4:Ext w w4:=E2.trans x4;have z4:=x4.size
 have KR4:=KR2.ext x4
 clear CT2 LT2
 go_wp2_with fail
 go_loopw [13] (fun i wr=>Ext w4 wr∧((i=.int .i64 0∧Blk wr (w4.heap.size) 306 #[.slice a0 a1 a2,.slice a3 a4 a5,.slice b0 b1 b2,.slice b3 b4 b5]) ∨ (i=.int .i64 1∧∃ c0 c1 c2 c3 c4 c5 F,Blk wr (w4.heap.size) 306 #[.slice c0 c1 c2,.slice c3 c4 c5,.slice b0 b1 b2,.slice b3 b4 b5]∧OwDisk (w4.heap.size+1) wr (.agg #[.slice c0 c1 c2,.slice c3 c4 c5]) (fallenDisk true [] d0) F) ∨ (i=.int .i64 2∧∃ c0 c1 c2 c3 c4 c5 F e0 e1 e2 e3 e4 e5 G,Blk wr (w4.heap.size) 306 #[.slice c0 c1 c2,.slice c3 c4 c5,.slice e0 e1 e2,.slice e3 e4 e5]∧OwDisk (w4.heap.size+1) wr (.agg #[.slice c0 c1 c2,.slice c3 c4 c5]) (fallenDisk true [] d0) F∧OwDisk (w4.heap.size+1) wr (.agg #[.slice e0 e1 e2,.slice e3 e4 e5]) (fallenDisk true [] d1) G∧∀ k,k ∈ F→k ∈ G→False))) (fun i _=>2 - (intOf i).toNat)
 case atStart=>exact⟨by exact extT,Or.inl ⟨rfl,Blk.cast (by exact blkT) (by first|rfl|simp)⟩⟩
 case round =>
  obtain⟨x,hcase⟩:=hrel
  have zx:=x.size
  rcases hcase with ⟨rfl,KA⟩|⟨rfl,c0,c1,c2,c3,c4,c5,F,KA,oc⟩|⟨rfl,c0,c1,c2,c3,c4,c5,F,e0,e1,e2,e3,e4,e5,G,KA,oc,oe,hd⟩
  ·
   have hix:∀ W:World,(Instr.index 306 (.agg #[.slice a0 a1 a2,.slice a3 a4 a5,.slice b0 b1 b2,.slice b3 b4 b5]) (.int .i64 0)).run Tryz.prog W=.ok (.agg #[.slice a0 a1 a2,.slice a3 a4 a5]) W:=fun _=>rfl
   have CA:=KA.cell;have LA:=KA.lt;have FA:=KA.frozen
   go_wp2_with fail
   refine (synced_c _ _ d0.Kept _ d0.Wait (h00.ext extT) (h01.ext extT)).mono ?_
   rintro e w5 ⟨_,rfl,x5,g5⟩
   obtain⟨F5,o5⟩:=g5.ow
   have d5:=o5.low;(try simp only [World.size_alloc,World.size_setCell] at d5)
   have o5:=OwDisk.monoK (B':=w4.heap.size+1) o5 (by (try simp only [World.size_alloc,World.size_setCell]);omega)
   obtain⟨c0,c1,c2,c3,c4,c5,rfl⟩:=o5.rd.shape
   have X5:Ext wr w5:=Ext.trans extT x5
   have z5:=X5.size
   have KA5:=KA.ext X5;clear CA FA LA;have CA5:=KA5.cell;have LA5:=KA5.lt;have FA5:=KA5.frozen
   clear x5
   go_wp2_with fail
   go_roundw
   case rel =>
    refine⟨by exact extT,Or.inr (Or.inl ⟨by go_num,c0,c1,c2,c3,c4,c5,F5,?_,?_⟩)⟩
    ·
     exact Blk.cast (by exact blkT) (by first|rfl|simp)
    exact OwDisk.keepK o5 chgT
   case measure=>simp [intOf]
  ·
   have ocl:=fun k hk=>(oc.low k hk).2
   have hix:∀ W:World,(Instr.index 306 (.agg #[.slice a0 a1 a2,.slice a3 a4 a5,.slice b0 b1 b2,.slice b3 b4 b5]) (.int .i64 1)).run Tryz.prog W=.ok (.agg #[.slice b0 b1 b2,.slice b3 b4 b5]) W:=fun _=>rfl
   have CA:=KA.cell;have LA:=KA.lt;have FA:=KA.frozen
   go_wp2_with fail
   refine (synced_c _ _ d1.Kept _ d1.Wait (h10.ext extT) (h11.ext extT)).mono ?_
   rintro e w5 ⟨_,rfl,x5,g5⟩
   obtain⟨F5,o5⟩:=g5.ow
   have d5:=o5.low;(try simp only [World.size_alloc,World.size_setCell] at d5)
   have o5:=OwDisk.monoK (B':=w4.heap.size+1) o5 (by (try simp only [World.size_alloc,World.size_setCell]);omega)
   obtain⟨e0,e1,e2,e3,e4,e5,rfl⟩:=o5.rd.shape
   have X5:Ext wr w5:=Ext.trans extT x5
   have z5:=X5.size
   have KA5:=KA.ext X5;clear CA FA LA;have CA5:=KA5.cell;have LA5:=KA5.lt;have FA5:=KA5.frozen
   clear x5
   go_wp2_with fail
   go_roundw
   case rel =>
    refine⟨by exact extT,Or.inr (Or.inr ⟨by go_num,c0,c1,c2,c3,c4,c5,F,e0,e1,e2,e3,e4,e5,F5,?_,?_,?_,?_⟩)⟩
    ·
     exact Blk.cast (by exact blkT) (by first|rfl|simp)
    ·
     exact OwDisk.keepK oc chgT
    ·
     exact OwDisk.keepK o5 chgT
    exact fun k h1 h2=>by have:=ocl k h1;have:=d5 k h2;omega
   case measure=>simp [intOf]
  have CA:=KA.cell;have LA:=KA.lt;have FA:=KA.frozen
  have KR9:=KR4.ext x;have CR9:=KR9.cell;have LR9:=KR9.lt;have FR9:=KR9.frozen
  go_wp2_with fail
  refine (twoOf_c _ _ _ _ _ _ _ _ _ _ _ _ _).mono ?_
  rintro e wz ⟨rfl,xz⟩
  have KRz:=KR9.ext xz;have CRz:=KRz.cell;have LRz:=KRz.lt;have FRz:=KRz.frozen
  have oc:=OwDisk.keepK oc (Chg.ext (Chg.refl _ _) xz);have oe:=OwDisk.keepK oe (Chg.ext (Chg.refl _ _) xz)
  have EW:Ext w wz:=(E4.trans x).trans xz
  clear CA FA LA CR9 LR9 FR9
  go_wp2_with fail
  refine bodyPost_ret (by simp [results,Tryz.results349,go_sem,CRz,FRz,LRz];try rfl) rfl ?_
  refine⟨_,rfl,by exact extT,_,[.slice c0 c1 c2,.slice c3 c4 c5],[.slice e0 e1 e2,.slice e3 e4 e5],F,G,rfl,rfl,rfl,?_,?_,?_,rfl⟩
  ·
   exact (OwDisk.keepK oc chgT).monoK oM
  ·
   exact (OwDisk.keepK oe chgT).monoK oM
  refine List.Pairwise.cons (fun b hb k hk hk2=>?_) (List.Pairwise.cons (fun b hb=>by cases hb) List.Pairwise.nil)
  simp only [List.mem_cons,List.not_mem_nil,or_false] at hb
  subst hb
  exact hd k hk hk2
end Go.Proofs.YtkpmbocbbgocbaaGreat
namespace Go.G8
open Go.RowKit
open Go.Proofs.YtkpmbocbbgocbaaGreat
theorem RdTwo.shape {w:World} {v:Value} {d:DTwo} (h:RdTwo w v d):∃ a0 a1 a2 a3 a4 a5 a6 a7 a8 a9 a10 a11,v=.agg #[.slice a0 a1 a2,.slice a3 a4 a5,.slice a6 a7 a8,.slice a9 a10 a11]:=by
 obtain⟨p0,p1,rfl,l0,l1,g0,g1⟩:=h
 obtain⟨a0,n0,k0,a1,n1,k1,e0⟩:=g0.shape
 obtain rfl:=agg_inj (M:=[_,_]) e0
 obtain⟨b0,m0,j0,b1,m1,j1,e1⟩:=g1.shape
 obtain rfl:=agg_inj (M:=[_,_]) e1
 exact⟨_,_,_,_,_,_,_,_,_,_,_,_,rfl⟩
end Go.G8
namespace Go.Proofs.YtkpmbocbbgocbaaGreat
open Go.RowKit Go.G8
theorem sMendedAt_k {w:World} {v u:Value} {t:DTwo} {row:List Int} (h:RdTwo w v t) (hu:Ints 1 w u row) (at_:Int) (ok:bwOk t at_ row=true) (ok2:twoOk (bwD t at_ row)=true):Calls Tryz.prog 272 #[v,.int .i64 at_,u] w (Ret w fun r w'=>∃ F,OwTwo w.heap.size w' r (bsD (bwD t at_ row)) F):=by
 obtain⟨a0,a1,a2,a3,a4,a5,a6,a7,a8,a9,a10,a11,rfl⟩:=RdTwo.shape h
 have O1:=Lib.hid ok;have O2:=Lib.hid ok2;clear ok ok2
 obtain⟨W1,hW1⟩:∃ W1,W1=(w.alloc (.cells #[.slice a0 a1 a2,.slice a3 a4 a5,.slice a6 a7 a8,.slice a9 a10 a11] 72)).alloc (.cells #[.slice none 0 0,.slice none 0 0,.slice none 0 0,.slice none 0 0] 72):=⟨_,rfl⟩
 have E1:Ext w W1:=by rw [hW1];exact ((Ext.refl _).alloc _).alloc _
 have KT1:Blk W1 w.heap.size 72 #[.slice a0 a1 a2,.slice a3 a4 a5,.slice a6 a7 a8,.slice a9 a10 a11]:=by rw [hW1];exact (Blk.new _ _ _).alloc _
 have KR1:Blk W1 (w.heap.size+1) 72 #[.slice none 0 0,.slice none 0 0,.slice none 0 0,.slice none 0 0]:=by rw [hW1];exact Blk.new2 _ _ _ _
 have z1:W1.heap.size=w.heap.size+1+1:=by rw [hW1];simp
 have HW1:=Lib.hid hW1
 clear hW1
 go_enter Tryz.func272,Tryz.ntmps272
 go_wp2_with fail
 rw [← HW1.out]
 have CT1:=KT1.cell;have LT1:=KT1.lt
 go_wp2_with fail
 refine (sBothWrote_k (h.ext E1) (hu.ext E1) at_ O1.out).mono ?_
 rintro e w2 ⟨_,rfl,x2,v2,rfl,F2,o2⟩
 have E2:Ext w w2:=E1.trans x2;have z2:=x2.size
 have r2:=o2.rd
 obtain⟨b0,b1,b2,b3,b4,b5,b6,b7,b8,b9,b10,b11,rfl⟩:=RdTwo.shape r2
 have KR2:=KR1.ext x2
 clear CT1 LT1
 go_wp2_with fail
 refine (sBothSynced_k (r2.ext extT) O2.out).mono ?_
 rintro e w3 ⟨_,rfl,x3,F3,o3⟩
 have E3:Ext w w3:=Ext.trans E2 (Ext.trans extT x3);have z3:=x3.size;(try simp only [World.size_alloc] at z3)
 obtain⟨c0,c1,c2,c3,c4,c5,c6,c7,c8,c9,c10,c11,rfl⟩:=RdTwo.shape o3.rd
 have KR3:Blk w3 (w.heap.size+1) 72 #[.slice none 0 0,.slice none 0 0,.slice none 0 0,.slice none 0 0]:=KR2.ext (Ext.trans extT x3)
 obtain⟨CR3,FR3,LR3⟩:=KR3.cfl
 go_wp2_with fail
 refine bodyPost_ret (by simp [results,Tryz.results272,go_sem,CR3,FR3,LR3];try rfl) rfl ?_
 refine⟨_,rfl,by exact extT,F3,?_⟩
 exact (OwTwo.keep (OwTwo.mono (B':=w.heap.size+2) o3 (by (try simp only [World.size_alloc]);omega)) (((((Chg.refl _ _).setLow oM _).setLow oM _).setLow oM _).setLow oM _)).mono oM
theorem mendedAt_k {w:World} {v u:Value} {t:DTwo} {row:List Int} (h:RdTwo w v t) (hu:Ints 1 w u row) (at_:Int) (ok:bwOk t at_ row=true) (ok2:twoOk (bwD t at_ row)=true):Calls Tryz.prog 267 #[v,.int .i64 at_,u] w (Ret w fun r w'=>∃ F,OwTwo w.heap.size w' r (bsD (bwD t at_ row)) F):=by
 obtain⟨a0,a1,a2,a3,a4,a5,a6,a7,a8,a9,a10,a11,rfl⟩:=RdTwo.shape h
 have O1:=Lib.hid ok;have O2:=Lib.hid ok2;clear ok ok2
 obtain⟨W1,hW1⟩:∃ W1,W1=(w.alloc (.cells #[.slice a0 a1 a2,.slice a3 a4 a5,.slice a6 a7 a8,.slice a9 a10 a11] 72)).alloc (.cells #[.slice none 0 0,.slice none 0 0,.slice none 0 0,.slice none 0 0] 72):=⟨_,rfl⟩
 have E1:Ext w W1:=by rw [hW1];exact ((Ext.refl _).alloc _).alloc _
 have KT1:Blk W1 w.heap.size 72 #[.slice a0 a1 a2,.slice a3 a4 a5,.slice a6 a7 a8,.slice a9 a10 a11]:=by rw [hW1];exact (Blk.new _ _ _).alloc _
 have KR1:Blk W1 (w.heap.size+1) 72 #[.slice none 0 0,.slice none 0 0,.slice none 0 0,.slice none 0 0]:=by rw [hW1];exact Blk.new2 _ _ _ _
 have z1:W1.heap.size=w.heap.size+1+1:=by rw [hW1];simp
 have HW1:=Lib.hid hW1
 clear hW1
 go_enter Tryz.func267,Tryz.ntmps267
 go_wp2_with fail
 rw [← HW1.out]
 have CT1:=KT1.cell;have LT1:=KT1.lt
 go_wp2_with fail
 refine (bothWrote_k (h.ext E1) (hu.ext E1) at_ O1.out).mono ?_
 rintro e w2 ⟨_,rfl,x2,v2,rfl,F2,o2⟩
 have E2:Ext w w2:=E1.trans x2;have z2:=x2.size
 have r2:=o2.rd
 obtain⟨b0,b1,b2,b3,b4,b5,b6,b7,b8,b9,b10,b11,rfl⟩:=RdTwo.shape r2
 have KR2:=KR1.ext x2
 clear CT1 LT1
 go_wp2_with fail
 refine (bothSynced_k (r2.ext extT) O2.out).mono ?_
 rintro e w3 ⟨_,rfl,x3,F3,o3⟩
 have E3:Ext w w3:=Ext.trans E2 (Ext.trans extT x3);have z3:=x3.size;(try simp only [World.size_alloc] at z3)
 obtain⟨c0,c1,c2,c3,c4,c5,c6,c7,c8,c9,c10,c11,rfl⟩:=RdTwo.shape o3.rd
 have KR3:Blk w3 (w.heap.size+1) 72 #[.slice none 0 0,.slice none 0 0,.slice none 0 0,.slice none 0 0]:=KR2.ext (Ext.trans extT x3)
 obtain⟨CR3,FR3,LR3⟩:=KR3.cfl
 go_wp2_with fail
 refine bodyPost_ret (by simp [results,Tryz.results267,go_sem,CR3,FR3,LR3];try rfl) rfl ?_
 refine⟨_,rfl,by exact extT,F3,?_⟩
 exact (OwTwo.keep (OwTwo.mono (B':=w.heap.size+2) o3 (by (try simp only [World.size_alloc]);omega)) (((((Chg.refl _ _).setLow oM _).setLow oM _).setLow oM _).setLow oM _)).mono oM
end Go.Proofs.YtkpmbocbbgocbaaGreat
namespace Go.G8
open Go.RowKit
open Go.Proofs.YtkpmbocbbgocbaaGreat
theorem headOk0:headOk ⟨0,0,0,[]⟩=true:=by
 have h1:seenOk []=true:=seenOk_true SeenOk.nil
 simp [headOk,h1,inb,timeOk,lastSeen,lastFrom]
theorem OwnI.litV (w:World) (e:TypeId) (xs:List Int) (h:xs.length≤1000) (g:Nat) (hg:g=w.heap.size):Ints 1 (w.alloc (.cells (xs.map (Value.int .i64)).toArray e)) (.slice (some ⟨g,0,none⟩) xs.length xs.length) xs:=by subst hg;exact (OwnI.lit w e xs h).ints
theorem rep2 {n m:Nat} (h:m=n+2):List.replicate m (0:Int)=List.replicate n 0 ++ [0,0]:=by rw [h,← List.replicate_append_replicate];rfl
theorem markOf0a (c:Int):(markOf [] c).Client=0:=rfl
theorem markOf0b (c:Int):(markOf [] c).Seq=0:=rfl
theorem markOf0c (c:Int):(markOf [] c).Index=0:=rfl
end Go.G8
namespace Go.Proofs.YtkpmbocbbgocbaaGreat
open Go.RowKit Go.G8
theorem sHeadRow0_c (w:World):Calls Tryz.prog 274 #[.agg #[.int .i64 0,.int .i64 0,.int .i64 0,.slice none 0 0]] w (Ret w fun r w'=>OwnI w.heap.size 2 1 w' r (List.replicate 13 0)):=by
 obtain⟨W1,hW1⟩:∃ W1,W1=w.alloc (.cells #[.int .i64 0,.int .i64 0,.int .i64 0,.slice none 0 0] 75):=⟨_,rfl⟩
 have E1:Ext w W1:=by rw [hW1];exact (Ext.refl _).alloc _
 have K1:Blk W1 w.heap.size 75 #[.int .i64 0,.int .i64 0,.int .i64 0,.slice none 0 0]:=by rw [hW1];exact Blk.new _ _ _
 have z1:W1.heap.size=w.heap.size+1:=by rw [hW1];simp
 have HW1:=Lib.hid hW1
 clear hW1
 go_enter Tryz.func274,Tryz.ntmps274
 go_wp2_with fail
 rw [← HW1.out]
 have C1:=K1.cell;have L1:=K1.lt
 go_wp2_with fail
 refine (sHeadOk_c _ 0 0 0 _ [] (OwnI.nil 0 290 _ _).ints).mono ?_
 rintro e w2 ⟨rfl,x2⟩
 rw [headOk0]
 have E2:Ext w w2:=E1.trans x2;have z2:=x2.size
 have K2:=K1.ext x2
 clear C1 L1;have C2:=K2.cell;have L2:=K2.lt
 have O0:=OwnI.lit w2 2 [0,0,0] (by simp)
 obtain⟨i0,hi,hz0,hz1,hz2⟩:=info_parts info_Int64
 go_wp2_with fail
 go_loopw [3,4] (fun sl kk wr=>∃ k:Nat,2≤k∧k≤6∧kk=.int .i64 k∧Ext w2 wr∧OwnI w2.heap.size 2 1 wr sl (List.replicate (2 * k - 1) 0)) (fun _ kk _=>6 - (intOf kk).toNat)
 case atStart=>exact⟨2,by omega,by omega,rfl,by exact extT,O0⟩
 case round =>
  obtain⟨k,hk1,hk2,rfl,x3,o3⟩:=hrel
  have K3:=K2.ext x3;clear C2 L2;have C3:=K3.cell;have L3:=K3.lt;have z3:=x3.size
  obtain⟨b3,m3,c3,rfl⟩:=o3.shape
  by_cases hlt:k<6
  ·
   go_wp2_with fail
   refine (sMarkOf_c _ _ [] _ (OwnI.nil 0 290 _ _).ints (seenOk_true SeenOk.nil)).mono ?_
   rintro e w4 ⟨rfl,x4⟩
   have X4:=x3.trans x4
   have z4:=x4.size
   have o4:=OwnI.ext o3 x4
   rw [markOf0a,markOf0b,markOf0c]
   go_wp2_with (first|(at_builtin;refine wp_append rfl (.tmp 25) (.tmp 30) 62 rfl 2 i0 _ 1 8 Tryz.underlying62 hi hz0 hz1 hz2 rfl dC w2.heap.size _ ((List.replicate (2 * k - 1) (0:Int)).map (.int .i64)) rfl (OwnI.ext o4 extT) (.slice (some ⟨w4.heap.size+1,0,none⟩) 2 2) (([0,0]:List Int).map (.int .i64)) rfl (OwnI.litV _ 2 [0,0] (by simp) (w4.heap.size+1) (by simp)) (ints_oneCell _ _) 1000 (by simp;omega) (by unfold maxLen;omega) oM (by simp;omega) w2 extT (Nat.le_refl _) ?_;rotate_right;intro v5 w5 O5 E5 _))
   go_roundw
   case rel=>exact⟨k+1,by omega,by omega,by go_num,E5,by rw [rep2 (n:=2 * k - 1) oM];simpa [OwnI] using O5⟩
   case measure=>simp [intOf];omega
  obtain rfl:k=6:=by omega
  go_wp2_with (first|(at_builtin;refine wp_append rfl (.tmp 32) (.tmp 37) 62 rfl 2 i0 _ 1 8 Tryz.underlying62 hi hz0 hz1 hz2 rfl dC w2.heap.size _ ((List.replicate (2 * 6 - 1) (0:Int)).map (.int .i64)) rfl (OwnI.ext o3 extT) (.slice (some ⟨wr.heap.size,0,none⟩) 2 2) (([0,0]:List Int).map (.int .i64)) rfl (OwnI.litV _ 2 [0,0] (by simp) wr.heap.size rfl) (ints_oneCell _ _) 1000 (by simp) (by unfold maxLen;omega) oM (by simp;omega) w2 extT (Nat.le_refl _) ?_;rotate_right;intro v5 w5 O5 E5 _))
  go_ret
  refine⟨_,rfl,E2.trans E5,Own.mono (?_:Own w2.heap.size 2 1 w5 v5 _) oM⟩
  rw [rep2 (n:=11) rfl];simpa using O5
theorem markOf0_c (w:World) (c:Int):Calls Tryz.prog 350 #[.slice none 0 0,.int .i64 c] w (RetV w (.agg #[.int .i64 0,.int .i64 0,.int .i64 0])):=by
 go_enter Tryz.func350,Tryz.ntmps350
 go_wp2_with fail
 go_loopw [9] (fun i wr=>i=.int .i64 0∧Ext w wr∧Blk wr w.heap.size 290 #[.int .i64 0,.int .i64 0,.int .i64 0]) (fun _ _=>0)
 case atStart=>exact⟨rfl,by exact extT,Blk.new _ _ _⟩
 case round =>
  obtain⟨rfl,x,K⟩:=hrel
  have CR:=K.cell;have FR:=K.frozen;have LR:=K.lt
  go_wp2_with fail
  refine bodyPost_ret (by simp [results,Tryz.results350,go_sem,CR,FR,LR];try rfl) rfl ?_
  exact⟨rfl,by exact extT⟩
theorem headRow0_c (w:World):Calls Tryz.prog 269 #[.agg #[.int .i64 0,.int .i64 0,.int .i64 0,.slice none 0 0]] w (Ret w fun r w'=>OwnI w.heap.size 2 1 w' r (List.replicate 13 0)):=by
 obtain⟨W1,hW1⟩:∃ W1,W1=w.alloc (.cells #[.int .i64 0,.int .i64 0,.int .i64 0,.slice none 0 0] 75):=⟨_,rfl⟩
 have E1:Ext w W1:=by rw [hW1];exact (Ext.refl _).alloc _
 have K1:Blk W1 w.heap.size 75 #[.int .i64 0,.int .i64 0,.int .i64 0,.slice none 0 0]:=by rw [hW1];exact Blk.new _ _ _
 have z1:W1.heap.size=w.heap.size+1:=by rw [hW1];simp
 have HW1:=Lib.hid hW1
 clear hW1
 go_enter Tryz.func269,Tryz.ntmps269
 go_wp2_with fail
 rw [← HW1.out]
 have C1:=K1.cell;have L1:=K1.lt
 go_wp2_with fail
 refine (headOk_c _ 0 0 0 _ [] (OwnI.nil 0 290 _ _).ints).mono ?_
 rintro e w2 ⟨rfl,x2⟩
 rw [headOk0]
 have E2:Ext w w2:=E1.trans x2;have z2:=x2.size
 have K2:=K1.ext x2
 clear C1 L1;have C2:=K2.cell;have L2:=K2.lt
 have O0:=OwnI.lit w2 2 [0,0,0] (by simp)
 obtain⟨i0,hi,hz0,hz1,hz2⟩:=info_parts info_Int64
 go_wp2_with fail
 go_loopw [3,4] (fun sl kk wr=>∃ k:Nat,2≤k∧k≤6∧kk=.int .i64 k∧Ext w2 wr∧OwnI w2.heap.size 2 1 wr sl (List.replicate (2 * k - 1) 0)) (fun _ kk _=>6 - (intOf kk).toNat)
 case atStart=>exact⟨2,by omega,by omega,rfl,by exact extT,O0⟩
 case round =>
  obtain⟨k,hk1,hk2,rfl,x3,o3⟩:=hrel
  have K3:=K2.ext x3;clear C2 L2;have C3:=K3.cell;have L3:=K3.lt;have z3:=x3.size
  obtain⟨b3,m3,c3,rfl⟩:=o3.shape
  by_cases hlt:k<6
  ·
   have hle:decide ((k:Int)≤5)=true:=by simp;omega
   go_wp2_with fail
   refine (markOf0_c _ _).mono ?_
   rintro e w4 ⟨rfl,x4⟩
   have X4:=x3.trans x4
   have z4:=x4.size
   have o4:=OwnI.ext o3 x4
   go_wp2_with (first|(at_builtin;refine wp_append rfl (.tmp 24) (.tmp 29) 62 rfl 2 i0 _ 1 8 Tryz.underlying62 hi hz0 hz1 hz2 rfl dC w2.heap.size _ ((List.replicate (2 * k - 1) (0:Int)).map (.int .i64)) rfl (OwnI.ext o4 extT) (.slice (some ⟨w4.heap.size+1,0,none⟩) 2 2) (([0,0]:List Int).map (.int .i64)) rfl (OwnI.litV _ 2 [0,0] (by simp) (w4.heap.size+1) (by simp)) (ints_oneCell _ _) 1000 (by simp;omega) (by unfold maxLen;omega) oM (by simp;omega) w2 extT (Nat.le_refl _) ?_;rotate_right;intro v5 w5 O5 E5 _))
   go_roundw
   case rel=>exact⟨k+1,by omega,by omega,by go_num,E5,by rw [rep2 (n:=2 * k - 1) oM];simpa [OwnI] using O5⟩
   case measure=>simp [intOf];omega
  obtain rfl:k=6:=by omega
  go_wp2_with (first|(at_builtin;refine wp_append rfl (.tmp 31) (.tmp 36) 62 rfl 2 i0 _ 1 8 Tryz.underlying62 hi hz0 hz1 hz2 rfl dC w2.heap.size _ ((List.replicate (2 * 6 - 1) (0:Int)).map (.int .i64)) rfl (OwnI.ext o3 extT) (.slice (some ⟨wr.heap.size,0,none⟩) 2 2) (([0,0]:List Int).map (.int .i64)) rfl (OwnI.litV _ 2 [0,0] (by simp) wr.heap.size rfl) (ints_oneCell _ _) 1000 (by simp) (by unfold maxLen;omega) oM (by simp;omega) w2 extT (Nat.le_refl _) ?_;rotate_right;intro v5 w5 O5 E5 _))
  go_ret
  refine⟨_,rfl,E2.trans E5,Own.mono (?_:Own w2.heap.size 2 1 w5 v5 _) oM⟩
  rw [rep2 (n:=11) rfl];simpa using O5
end Go.Proofs.YtkpmbocbbgocbaaGreat
namespace Go.G8
open Go.RowKit
open Go.Proofs.YtkpmbocbbgocbaaGreat
def keptD:DTwo:=bsD (bwD (newTwo 22) 0 (List.replicate 13 0))
def newLogD:DLogNode:=⟨keptD,⟨0,0,0,[]⟩,⟨0,0,0,[]⟩,false,⟨0,0,[]⟩,[],0,[]⟩
theorem bw0:bwOk (newTwo 22) 0 (List.replicate 13 0)=true:=by kernel_rfl
theorem bw1:twoOk (bwD (newTwo 22) 0 (List.replicate 13 0))=true:=by kernel_rfl
end Go.G8
namespace Go.Proofs.YtkpmbocbbgocbaaGreat
open Go.RowKit Go.G8
theorem sNewKept_c (w:World):Calls Tryz.prog 173 #[] w (Ret w fun r w'=>∃ F,OwTwo w.heap.size w' r keptD F):=by
 go_enter Tryz.func173,Tryz.ntmps173
 go_wp2_with fail
 refine (sNewTwo_c _ 22).mono ?_
 rintro e w1 ⟨_,rfl,x1,F1,o1⟩
 have E1:Ext w w1:=Ext.trans extT x1;have z1:=x1.size;simp only [World.size_alloc] at z1
 have K1:Blk w1 w.heap.size 72 #[.slice none 0 0,.slice none 0 0,.slice none 0 0,.slice none 0 0]:=(Blk.new _ _ _).ext x1
 have r1:=o1.rd
 obtain⟨a0,a1,a2,a3,a4,a5,a6,a7,a8,a9,a10,a11,rfl⟩:=RdTwo.shape r1
 go_wp2_with fail
 refine (sHeadRow0_c _).mono ?_
 rintro e w2 ⟨_,rfl,x2,o2⟩
 have E2:Ext w w2:=E1.trans x2;have z2:=x2.size
 have K2:=K1.ext x2
 go_wp2_with fail
 refine (sMendedAt_k (r1.ext x2) o2.ints 0 bw0 bw1).mono ?_
 rintro e w3 ⟨_,rfl,x3,F3,o3⟩
 have E3:Ext w w3:=E2.trans x3;have z3:=x3.size
 obtain⟨c0,c1,c2,c3,c4,c5,c6,c7,c8,c9,c10,c11,rfl⟩:=RdTwo.shape o3.rd
 have KR3:=K2.ext x3
 obtain⟨CR3,FR3,LR3⟩:=KR3.cfl
 go_wp2_with fail
 refine bodyPost_ret (by simp [results,Tryz.results173,go_sem,CR3,FR3,LR3];try rfl) rfl ?_
 refine⟨_,rfl,by exact extT,F3,?_⟩
 exact (OwTwo.keep (OwTwo.mono (B':=w.heap.size+1) o3 oM) (((((Chg.refl _ _).setLow oM _).setLow oM _).setLow oM _).setLow oM _)).mono oM
theorem newKept_c (w:World):Calls Tryz.prog 168 #[] w (Ret w fun r w'=>∃ F,OwTwo w.heap.size w' r keptD F):=by
 go_enter Tryz.func168,Tryz.ntmps168
 go_wp2_with fail
 refine (newTwo_c _ 22).mono ?_
 rintro e w1 ⟨_,rfl,x1,F1,o1⟩
 have E1:Ext w w1:=Ext.trans extT x1;have z1:=x1.size;simp only [World.size_alloc] at z1
 have K1:Blk w1 w.heap.size 72 #[.slice none 0 0,.slice none 0 0,.slice none 0 0,.slice none 0 0]:=(Blk.new _ _ _).ext x1
 have r1:=o1.rd
 obtain⟨a0,a1,a2,a3,a4,a5,a6,a7,a8,a9,a10,a11,rfl⟩:=RdTwo.shape r1
 go_wp2_with fail
 refine (headRow0_c _).mono ?_
 rintro e w2 ⟨_,rfl,x2,o2⟩
 have E2:Ext w w2:=E1.trans x2;have z2:=x2.size
 have K2:=K1.ext x2
 go_wp2_with fail
 refine (mendedAt_k (r1.ext x2) o2.ints 0 bw0 bw1).mono ?_
 rintro e w3 ⟨_,rfl,x3,F3,o3⟩
 have E3:Ext w w3:=E2.trans x3;have z3:=x3.size
 obtain⟨c0,c1,c2,c3,c4,c5,c6,c7,c8,c9,c10,c11,rfl⟩:=RdTwo.shape o3.rd
 have KR3:=K2.ext x3
 obtain⟨CR3,FR3,LR3⟩:=KR3.cfl
 go_wp2_with fail
 refine bodyPost_ret (by simp [results,Tryz.results168,go_sem,CR3,FR3,LR3];try rfl) rfl ?_
 refine⟨_,rfl,by exact extT,F3,?_⟩
 exact (OwTwo.keep (OwTwo.mono (B':=w.heap.size+1) o3 oM) (((((Chg.refl _ _).setLow oM _).setLow oM _).setLow oM _).setLow oM _)).mono oM
theorem ow0Head (B:Nat) (w:World):OwHead B w (.agg ([.int .i64 0,.int .i64 0,.int .i64 0,.slice none 0 0]:List Value).toArray) ⟨0,0,0,[]⟩ []:=⟨.slice none 0 0,[],rfl,⟨OwnI.nil _ _ _ _,rfl⟩,by simp,rfl⟩
theorem ow0Book (B:Nat) (w:World):OwBook B w (.agg ([.int .i64 0,.int .i64 0,.slice none 0 0]:List Value).toArray) ⟨0,0,[]⟩ []:=⟨.slice none 0 0,[],rfl,⟨OwnI.nil _ _ _ _,rfl⟩,by simp,rfl⟩
theorem sNewLog_c (w:World):Calls Tryz.prog 77 #[] w (Ret w fun r w'=>∃ F,OwLog w.heap.size w' r newLogD F):=by
 go_enter Tryz.func77,Tryz.ntmps77
 go_wp2_with fail
 refine (sNewKept_c _).mono ?_
 rintro e w1 ⟨_,rfl,x1,F1,o1⟩
 have E1:Ext w w1:=Ext.trans extT x1;have z1:=x1.size;simp only [World.size_alloc] at z1
 have K1:Blk w1 w.heap.size 81 #[.slice none 0 0,.slice none 0 0,.slice none 0 0,.slice none 0 0,.int .i64 0,.int .i64 0,.int .i64 0,.slice none 0 0,.int .i64 0,.int .i64 0,.int .i64 0,.slice none 0 0,.bool false,.int .i64 0,.int .i64 0,.slice none 0 0,.slice none 0 0,.int .i64 0,.slice none 0 0]:=(Blk.new _ _ _).ext x1
 obtain⟨a0,a1,a2,a3,a4,a5,a6,a7,a8,a9,a10,a11,rfl⟩:=RdTwo.shape o1.rd
 go_wp2_with (first|(refine wpList_store_box rfl 81 (.tmp 0) (.tmp 2) rfl rfl rfl _ K1 (by kernel_rfl) rfl (by kernel_rfl) ?_;intro KF))
 refine bodyPost_ret (by first|exact results_cell_row rfl _ _ w.heap.size _ _ _ _ (by rfl) KF Tryz.underlying81 rfl (by kernel_rfl)) rfl ?_
 refine⟨_,rfl,by exact extT,_,[.slice a0 a1 a2,.slice a3 a4 a5,.slice a6 a7 a8,.slice a9 a10 a11],[.int .i64 0,.int .i64 0,.int .i64 0,.slice none 0 0],[.int .i64 0,.int .i64 0,.int .i64 0,.slice none 0 0],[.int .i64 0,.int .i64 0,.slice none 0 0],.slice none 0 0,.slice none 0 0,F1,[],[],[],[],[],rfl,rfl,rfl,rfl,rfl,?_,ow0Head _ _,ow0Head _ _,ow0Book _ _,⟨OwnI.nil _ _ _ _,rfl⟩,⟨OwnI.nil _ _ _ _,rfl⟩,by simp,rfl⟩
 exact (OwTwo.keep (OwTwo.mono (B':=w.heap.size+1) o1 (by simp)) ((Chg.refl _ _).setRow (Or.inl oM) _)).mono oM
theorem newLog_c (w:World):Calls Tryz.prog 71 #[] w (Ret w fun r w'=>∃ F,OwLog w.heap.size w' r newLogD F):=by
 go_enter Tryz.func71,Tryz.ntmps71
 go_wp2_with fail
 refine (newKept_c _).mono ?_
 rintro e w1 ⟨_,rfl,x1,F1,o1⟩
 have E1:Ext w w1:=Ext.trans extT x1;have z1:=x1.size;simp only [World.size_alloc] at z1
 have K1:Blk w1 w.heap.size 81 #[.slice none 0 0,.slice none 0 0,.slice none 0 0,.slice none 0 0,.int .i64 0,.int .i64 0,.int .i64 0,.slice none 0 0,.int .i64 0,.int .i64 0,.int .i64 0,.slice none 0 0,.bool false,.int .i64 0,.int .i64 0,.slice none 0 0,.slice none 0 0,.int .i64 0,.slice none 0 0]:=(Blk.new _ _ _).ext x1
 obtain⟨a0,a1,a2,a3,a4,a5,a6,a7,a8,a9,a10,a11,rfl⟩:=RdTwo.shape o1.rd
 go_wp2_with (first|(refine wpList_store_box rfl 81 (.tmp 0) (.tmp 2) rfl rfl rfl _ K1 (by kernel_rfl) rfl (by kernel_rfl) ?_;intro KF))
 refine bodyPost_ret (by first|exact results_cell_row rfl _ _ w.heap.size _ _ _ _ (by rfl) KF Tryz.underlying81 rfl (by kernel_rfl)) rfl ?_
 refine⟨_,rfl,by exact extT,_,[.slice a0 a1 a2,.slice a3 a4 a5,.slice a6 a7 a8,.slice a9 a10 a11],[.int .i64 0,.int .i64 0,.int .i64 0,.slice none 0 0],[.int .i64 0,.int .i64 0,.int .i64 0,.slice none 0 0],[.int .i64 0,.int .i64 0,.slice none 0 0],.slice none 0 0,.slice none 0 0,F1,[],[],[],[],[],rfl,rfl,rfl,rfl,rfl,?_,ow0Head _ _,ow0Head _ _,ow0Book _ _,⟨OwnI.nil _ _ _ _,rfl⟩,⟨OwnI.nil _ _ _ _,rfl⟩,by simp,rfl⟩
 exact (OwTwo.keep (OwTwo.mono (B':=w.heap.size+1) o1 (by simp)) ((Chg.refl _ _).setRow (Or.inl oM) _)).mono oM
end Go.Proofs.YtkpmbocbbgocbaaGreat
