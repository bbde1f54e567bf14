/- NV1 NV2 NV3 NJ2 NJ3 NV4 NV5 NJ1 NV6 NV7. -/
import Derived.Test.YtkpmbocbbgocbaaGreatQB5
import Derived.Test.YtkpmbocbbgocbaaGreatQB3
import Derived.Test.YtkpmbocbbgocbaaGreatQNJ
import Derived.Lib.SliceRun
set_option linter.unusedSimpArgs false
set_option linter.unusedVariables false
set_option maxHeartbeats 8000000
set_option maxRecDepth 100000
namespace Go.Proofs.YtkpmbocbbgocbaaGreat
open Go.RowKit Go.G8
def aN(n:Int):Jg:=⟨Gb n,Gb n⟩
theorem nZ(w:World):Calls Tryz.prog 80 #[] w (Ret w fun v w'=>∃F,Im w.heap.size w' v ⟨[],[]⟩ F):=by
 go_enter Tryz.func80,Tryz.ntmps80
 go_wp2_with fail
 refine bodyPost_ret (v:=.agg #[.slice none 0 0,.slice none 0 0]) (by simp[results,Tryz.results80,go_sem];try rfl) rfl ?_
 exact⟨_,rfl,by exact Aa,_,.slice none 0 0,.slice none 0 0,[],[],rfl,⟨[],Bi.nil _ _ _ _ _,rfl⟩,⟨Af.nil _ _ _ _,rfl⟩,by simp,rfl⟩
theorem oC(w:World)(n:Int):Calls Tryz.prog 273 #[.int .i64 n] w (Ret w fun v w'=>∃F,Hm w.heap.size w' v (aN n) F):=by
 go_enter Tryz.func273,Tryz.ntmps273
 go_wp2_with fail
 refine(Vh _ n).mono ?_
 rintro e w1⟨_,rfl,hx1,g1⟩
 have E1:Ext w w1:=Ext.trans Aa hx1
 have hz1:=hx1.size;simp only[World.size_alloc] at hz1
 obtain⟨F1,o1⟩:=g1.ow
 obtain⟨a0,n0,k0,a1,n1,k1,rfl⟩:=o1.rd.shape
 go_wp2_with fail
 refine(Vh _ n).mono ?_
 rintro e w2⟨_,rfl,hx2,g2⟩
 have E2:Ext w w2:=Ext.trans E1 hx2
 have hz2:=hx2.size
 obtain⟨F2,o2⟩:=g2.ow
 obtain⟨b0,m0,j0,b1,m1,j1,rfl⟩:=o2.rd.shape
 have d1:=o1.low
 have o1:=o1.ext hx2
 have d2:=o2.low
 have KR2:Blk w2 w.heap.size 72 #[.slice none 0 0,.slice none 0 0,.slice none 0 0,.slice none 0 0]:=((Blk.new _ _ _).ext hx1).ext hx2
 obtain⟨CR2,FR2,LR2⟩:=KR2.cfl
 go_wp2_with fail
 refine bodyPost_ret (by simp[results,Tryz.results273,go_sem,CR2,FR2,LR2];try rfl) rfl ?_
 have C1:∀W,Chg (w.heap.size+1) W ((((W.setCell ⟨w.heap.size,0,none⟩ (.slice a0 n0 k0)).setCell ⟨w.heap.size,1,none⟩ (.slice a1 n1 k1)).setCell ⟨w.heap.size,2,none⟩ (.slice b0 m0 j0)).setCell ⟨w.heap.size,3,none⟩ (.slice b1 m1 j1)):=fun W=>((((Chg.refl _ _).setLow (by simp) _).setLow (by simp) _).setLow (by simp) _).setLow (by simp) _
 refine⟨_,rfl,by exact Aa,_,[.slice a0 n0 k0,.slice a1 n1 k1],[.slice b0 m0 j0,.slice b1 m1 j1],F1,F2,rfl,rfl,rfl,(Dc.keepK (o1.monoK (by simp)) (C1 _)).monoK (by simp),(Dc.keepK (o2.monoK oM) (C1 _)).monoK (by simp),?_,rfl⟩
 refine List.Pairwise.cons (fun b hb k hk hk2=>?_) (List.Pairwise.cons (fun b hb=>by cases hb) List.Pairwise.nil)
 simp only[List.mem_cons,List.not_mem_nil,or_false] at hb
 subst hb
 have:=d1 k hk;have:=d2 k hk2
 omega
theorem qO(w:World):Calls Tryz.prog 75 #[] w (Ret w fun v w'=>∃F,Im w.heap.size w' v ⟨[],[]⟩ F):=by
 go_enter Tryz.func75,Tryz.ntmps75
 go_wp2_with fail
 refine bodyPost_ret (v:=.agg #[.slice none 0 0,.slice none 0 0]) (by simp[results,Tryz.results75,go_sem];try rfl) rfl ?_
 exact⟨_,rfl,by exact Aa,_,.slice none 0 0,.slice none 0 0,[],[],rfl,⟨[],Bi.nil _ _ _ _ _,rfl⟩,⟨Af.nil _ _ _ _,rfl⟩,by simp,rfl⟩
theorem qP(w:World)(n:Int):Calls Tryz.prog 268 #[.int .i64 n] w (Ret w fun v w'=>∃F,Hm w.heap.size w' v (aN n) F):=by
 go_enter Tryz.func268,Tryz.ntmps268
 go_wp2_with fail
 refine(Xd _ n).mono ?_
 rintro e w1⟨_,rfl,hx1,g1⟩
 have E1:Ext w w1:=Ext.trans Aa hx1
 have hz1:=hx1.size;simp only[World.size_alloc] at hz1
 obtain⟨F1,o1⟩:=g1.ow
 obtain⟨a0,n0,k0,a1,n1,k1,rfl⟩:=o1.rd.shape
 go_wp2_with fail
 refine(Xd _ n).mono ?_
 rintro e w2⟨_,rfl,hx2,g2⟩
 have E2:Ext w w2:=Ext.trans E1 hx2
 have hz2:=hx2.size
 obtain⟨F2,o2⟩:=g2.ow
 obtain⟨b0,m0,j0,b1,m1,j1,rfl⟩:=o2.rd.shape
 have d1:=o1.low
 have o1:=o1.ext hx2
 have d2:=o2.low
 have KR2:Blk w2 w.heap.size 72 #[.slice none 0 0,.slice none 0 0,.slice none 0 0,.slice none 0 0]:=((Blk.new _ _ _).ext hx1).ext hx2
 obtain⟨CR2,FR2,LR2⟩:=KR2.cfl
 go_wp2_with fail
 refine bodyPost_ret (by simp[results,Tryz.results268,go_sem,CR2,FR2,LR2];try rfl) rfl ?_
 have C1:∀W,Chg (w.heap.size+1) W ((((W.setCell ⟨w.heap.size,0,none⟩ (.slice a0 n0 k0)).setCell ⟨w.heap.size,1,none⟩ (.slice a1 n1 k1)).setCell ⟨w.heap.size,2,none⟩ (.slice b0 m0 j0)).setCell ⟨w.heap.size,3,none⟩ (.slice b1 m1 j1)):=fun W=>((((Chg.refl _ _).setLow (by simp) _).setLow (by simp) _).setLow (by simp) _).setLow (by simp) _
 refine⟨_,rfl,by exact Aa,_,[.slice a0 n0 k0,.slice a1 n1 k1],[.slice b0 m0 j0,.slice b1 m1 j1],F1,F2,rfl,rfl,rfl,(Dc.keepK (o1.monoK (by simp)) (C1 _)).monoK (by simp),(Dc.keepK (o2.monoK oM) (C1 _)).monoK (by simp),?_,rfl⟩
 refine List.Pairwise.cons (fun b hb k hk hk2=>?_) (List.Pairwise.cons (fun b hb=>by cases hb) List.Pairwise.nil)
 simp only[List.mem_cons,List.not_mem_nil,or_false] at hb
 subst hb
 have:=d1 k hk;have:=d2 k hk2
 omega
def kW(t:Jg)(at_:Int)(row:List Int):Bool:=Jy t&&(decide (0<(Gc row).length)&&(Nv t.A at_ (Gc row)&&Nv t.B at_ (Gc row)))
def bwD(t:Jg)(at_:Int)(row:List Int):Jg:=⟨wrD t.A at_ (Gc row),wrD t.B at_ (Gc row)⟩
theorem aO{t:Jg}{at_:Int}{row:List Int}(h:kW t at_ row=true):Jy t=true/\0<(Gc row).length/\Nv t.A at_ (Gc row)=true/\Nv t.B at_ (Gc row)=true:=by
 simpa[kW,Bool.and_eq_true] using h
theorem fH{w:World}{v u:Value}{t:Jg}{row:List Int}(h:Kf w v t)(hu:Aj 1 w u row)(at_:Int)(ok:kW t at_ row=true):Calls Tryz.prog 352 #[v,.int .i64 at_,u] w (Ret w fun r w'=>∃v',r=.tuple #[v',.bool true]/\∃F,Hm w.heap.size w' v' (bwD t at_ row) F):=by
 obtain⟨p0,p1,rfl,l0,l1,g0,g1⟩:=h
 obtain⟨a0,n0,k0,a1,n1,k1,e0⟩:=g0.shape
 obtain rfl:=Ct (M:=[_,_]) e0
 obtain⟨b0,m0,j0,b1,m1,j1,e1⟩:=g1.shape
 obtain rfl:=Ct (M:=[_,_]) e1
 clear e0 e1
 obtain⟨ok1,ok2,ok3,ok4⟩:=aO ok
 have O1:=Lib.hid ok1;have O2:=Lib.hid ok2;have O3:=Lib.hid ok3;have O4:=Lib.hid ok4
 clear ok ok1 ok2 ok3 ok4
 obtain⟨W1,hW1⟩:∃W1,W1=(w.alloc (.cells #[.slice a0 n0 k0,.slice a1 n1 k1,.slice b0 m0 j0,.slice b1 m1 j1] 72)).alloc (.cells #[.slice none 0 0,.slice none 0 0,.slice none 0 0,.slice none 0 0] 72):=⟨_,rfl⟩
 have E1:Ext w W1:=by rw[hW1];exact((Ext.refl _).alloc _).alloc _
 have KT1:Blk W1 w.heap.size 72 #[.slice a0 n0 k0,.slice a1 n1 k1,.slice b0 m0 j0,.slice b1 m1 j1]:=by rw[hW1];exact(Blk.new _ _ _).alloc _
 have KR1:Blk W1 (w.heap.size+1) 72 #[.slice none 0 0,.slice none 0 0,.slice none 0 0,.slice none 0 0]:=by rw[hW1];exact Blk.new2 _ _ _ _
 have z1:W1.heap.size=w.heap.size+1+1:=by rw[hW1];simp
 have HW1:=Lib.hid hW1
 clear hW1
 go_enter Tryz.func352,Tryz.ntmps352
 go_wp2_with fail
 rw[<-HW1.out]
 have CT1:=KT1.cell;have LT1:=KT1.lt
 go_wp2_with fail
 obtain⟨d0,d1⟩:=t
 obtain⟨h00,h01⟩:=Gw.get g0
 obtain⟨h10,h11⟩:=Gw.get g1
 refine(Wl _ _ d0.Kept _ d0.Wait _ d1.Kept _ d1.Wait (h00.ext E1) (h01.ext E1) (h10.ext E1) (h11.ext E1)).mono ?_
 rintro e w2⟨rfl,x2⟩
 rw[show Jy (⟨⟨d0.Kept,d0.Wait⟩,⟨d1.Kept,d1.Wait⟩⟩:Jg)=true from O1.out]
 have E2:Ext w w2:=E1.trans x2;have z2:=x2.size
 have KT2:=KT1.ext x2;have KR2:=KR1.ext x2
 clear CT1 LT1;have CT2:=KT2.cell;have LT2:=KT2.lt
 go_wp2_with fail
 refine(kH _ _ row (hu.ext E2)).mono ?_
 rintro e w3⟨_,rfl,x3,o3⟩
 have E3:Ext w w3:=E2.trans x3;have z3:=x3.size
 have KT3:=KT2.ext x3;have KR3:=KR2.ext x3
 clear CT2 LT2;have CT3:=KT3.cell;have LT3:=KT3.lt
 have i3:=o3.ints
 obtain⟨ua,uc,rfl,huc,-,-⟩:=i3.one
 have hn:decide (((Gc row).length:Int)=0)=false:=decide_eq_false (by have:=O2.out;omega)
 have hn2:((((Gc row).length:Nat):Int) == 0)=false:=beq_eq_false_iff_ne.2 (by have:=O2.out;omega)
 go_wp2_with fail
 refine(iJ (g0.ext E3) i3 at_).mono ?_
 rintro e w4⟨_,rfl,x4,v4,rfl,F4,o4⟩
 have o4:=o4
 rw[O3.out]
 have d4:=o4.low
 obtain⟨c0,r0,s0,c1,r1,s1,rfl⟩:=o4.rd.shape
 have E4:Ext w w4:=E3.trans x4;have z4:=x4.size
 have KT4:=KT3.ext x4;have KR4:=KR3.ext x4;have i4:=i3.ext x4
 clear CT3 LT3;have CT4:=KT4.cell;have LT4:=KT4.lt
 go_wp2_with fail
 refine(iJ (g1.ext Aa) (i4.ext Aa) at_).mono ?_
 rintro e w5⟨_,rfl,x5,v5,rfl,F5,o5⟩
 rw[O4.out]
 have d5:=o5.low
 obtain⟨e0,f0,h0,e1,f1,h1,rfl⟩:=o5.rd.shape
 have X5:Ext w4 w5:=Ext.trans Aa x5
 have E5:Ext w w5:=E4.trans X5
 have z5:=x5.size;(try simp only[World.size_alloc,World.size_setCell] at z5 d5)
 have KT5:=KT4.ext X5;have KR5:=KR4.ext X5
 have K95:Blk w5 w4.heap.size 70 #[.slice c0 r0 s0,.slice c1 r1 s1]:=Blk.ext bD x5
 have o4:=o4.ext X5
 clear CT4 LT4;have CT5:=KT5.cell;have LT5:=KT5.lt;have CR5:=KR5.cell;have FR5:=KR5.frozen;have LR5:=KR5.lt;have C95:=K95.cell;have L95:=K95.lt
 go_wp2_with fail
 refine bodyPost_ret (by simp[results,Tryz.results352,go_sem,CR5,FR5,LR5];try rfl) rfl ?_
 refine⟨_,rfl,by exact Aa,_,rfl,_,[.slice c0 r0 s0,.slice c1 r1 s1],[.slice e0 f0 h0,.slice e1 f1 h1],F4,F5,rfl,rfl,rfl,?_,?_,?_,rfl⟩
 .
  exact(Dc.keepK (Dc.monoK (B':=w.heap.size+2) o4 oM) ((((((Chg.refl _ _).setLow oM _).setLow oM _).setLow oM _).setLow oM _).alloc _)).monoK oM
 .
  exact(Dc.keepK (Dc.monoK (B':=w.heap.size+2) o5 (by(try simp only[World.size_alloc,World.size_setCell]);omega)) ((((((Chg.refl _ _).setLow oM _).setLow oM _).setLow oM _).setLow oM _).alloc _)).monoK oM
 refine List.Pairwise.cons (fun b hb k hk hk2=>?_) (List.Pairwise.cons (fun b hb=>by cases hb) List.Pairwise.nil)
 simp only[List.mem_cons,List.not_mem_nil,or_false] at hb
 subst hb
 have:=d4 k hk;have:=d5 k hk2
 omega
def bsD(t:Jg):Jg:=⟨Jf true [] t.A,Jf true [] t.B⟩
theorem cG{w:World}{v:Value}{t:Jg}(h:Kf w v t)(ok:Jy t=true):Calls Tryz.prog 353 #[v] w (Ret w fun r w'=>∃F,Hm w.heap.size w' r (bsD t) F):=by
 obtain⟨p0,p1,rfl,l0,l1,g0,g1⟩:=h
 obtain⟨a0,n0,k0,a1,n1,k1,e0⟩:=g0.shape
 obtain rfl:=Ct (M:=[_,_]) e0
 obtain⟨b0,m0,j0,b1,m1,j1,e1⟩:=g1.shape
 obtain rfl:=Ct (M:=[_,_]) e1
 clear e0 e1
 have O1:=Lib.hid ok;clear ok
 obtain⟨W1,hW1⟩:∃W1,W1=(w.alloc (.cells #[.slice a0 n0 k0,.slice a1 n1 k1,.slice b0 m0 j0,.slice b1 m1 j1] 72)).alloc (.cells #[.slice none 0 0,.slice none 0 0,.slice none 0 0,.slice none 0 0] 72):=⟨_,rfl⟩
 have E1:Ext w W1:=by rw[hW1];exact((Ext.refl _).alloc _).alloc _
 have KT1:Blk W1 w.heap.size 72 #[.slice a0 n0 k0,.slice a1 n1 k1,.slice b0 m0 j0,.slice b1 m1 j1]:=by rw[hW1];exact(Blk.new _ _ _).alloc _
 have KR1:Blk W1 (w.heap.size+1) 72 #[.slice none 0 0,.slice none 0 0,.slice none 0 0,.slice none 0 0]:=by rw[hW1];exact Blk.new2 _ _ _ _
 have z1:W1.heap.size=w.heap.size+1+1:=by rw[hW1];simp
 have HW1:=Lib.hid hW1
 clear hW1
 go_enter Tryz.func353,Tryz.ntmps353
 go_wp2_with fail
 rw[<-HW1.out]
 have CT1:=KT1.cell;have LT1:=KT1.lt
 go_wp2_with fail
 obtain⟨d0,d1⟩:=t
 obtain⟨h00,h01⟩:=Gw.get g0
 obtain⟨h10,h11⟩:=Gw.get g1
 refine(Wl _ _ d0.Kept _ d0.Wait _ d1.Kept _ d1.Wait (h00.ext E1) (h01.ext E1) (h10.ext E1) (h11.ext E1)).mono ?_
 rintro e w2⟨rfl,x2⟩
 rw[show Jy (⟨⟨d0.Kept,d0.Wait⟩,⟨d1.Kept,d1.Wait⟩⟩:Jg)=true from O1.out]
 have E2:Ext w w2:=E1.trans x2;have z2:=x2.size
 have KT2:=KT1.ext x2;have KR2:=KR1.ext x2
 clear CT1 LT1
 have h00:=h00.ext E2;have h01:=h01.ext E2;have h10:=h10.ext E2;have h11:=h11.ext E2
 go_upto_region 3 with(fail)
 refine wp_region_held_drew (S:=fun w'=>Ext w w'/\Blk w' w.heap.size 72 #[.slice a0 n0 k0,.slice a1 n1 k1,.slice b0 m0 j0,.slice b1 m1 j1]) (by kernel_rfl) (by(try dsimp only);exact⟨by exact Aa,by exact Bv⟩) (fun hHeld=>?_)
 refine wt 0 ?_
 (try simp only[Ab,Act.put])
 refine wtq 1 (fun _ h=>h.2.cell) ?_
 (try simp only[Ab,Act.put])
 refine wt 3 ?_
 (try simp only[Ab,Act.put])
 refine wtq 4 (fun _ h=>h.2.cell) ?_
 (try simp only[Ab,Act.put])
 refine wr1 2 fun Kz hKz=>?_
 (try simp only[Ab])
 go_simp
 go_at_call 407
 refine(cZ _ _ d0.Kept _ d0.Wait (h00.ext Aa) (h01.ext Aa)).mono ?_
 rintro e w3⟨_,rfl,x3,g3⟩
 have E3:Ext w2 w3:=Ext.trans Aa x3;have KT3:=KT2.ext E3;have Y3:Ext w w3:=E2.trans E3;have z3:=x3.size;(try simp only[Dj] at z3)
 obtain⟨F3,o3⟩:=g3.ow
 have d3:=o3.low;(try simp only[Dj] at d3)
 obtain⟨c0,c1,c2,c3,c4,c5,rfl⟩:=o3.rd.shape
 clear g3
 refine hKz.out _ _ (by(try dsimp only);exact⟨by exact Aa,by exact Bv⟩) (fun hHeld=>?_)
 clear hKz Kz
 (try simp only[Ab,Act.put])
 refine wr1 5 fun Kz hKz=>?_
 (try simp only[Ab])
 go_simp
 go_at_call 407
 refine(cZ _ _ d1.Kept _ d1.Wait (h10.ext Aa) (h11.ext Aa)).mono ?_
 rintro e w4⟨_,rfl,x4,g4⟩
 have E4:Ext w2 w4:=Ext.trans Aa x4;have KT4:=KT2.ext E4;have Y4:Ext w w4:=E2.trans E4;have z4:=x4.size;(try simp only[Dj] at z4)
 obtain⟨F4,o4⟩:=g4.ow
 have d4:=o4.low;(try simp only[Dj] at d4)
 obtain⟨e0,e1,e2,e3,e4,e5,rfl⟩:=o4.rd.shape
 clear g4
 refine hKz.out _ _ (by(try dsimp only);exact⟨by exact Aa,by exact Bv⟩) (fun hHeld=>?_)
 clear hKz Kz
 (try simp only[Ab,Act.put])
 refine wt 6 ?_
 (try simp only[Ab,Act.put])
 refine wr1 7 fun Kz hKz=>?_
 (try simp only[Ab])
 rw[if_pos (by rfl)]
 have KR4:Blk w4 (w.heap.size+1) 72 #[.slice none 0 0,.slice none 0 0,.slice none 0 0,.slice none 0 0]:=KR2.ext E4
 refine wp_store_row 72 (.tmp 2) (.tmp 13) (by rfl) _ #[.slice c0 c1 c2,.slice c3 c4 c5,.slice e0 e1 e2,.slice e3 e4 e5] (by rfl) (by rfl) 72 _ (show Blk _ (w.heap.size+1) 72 #[.slice none 0 0,.slice none 0 0,.slice none 0 0,.slice none 0 0] from by exact Bv) (by kernel_rfl) rfl (by kernel_rfl) ?_
 refine hKz.out _ _ (by(try dsimp only);exact⟨by exact Aa,by exact Bv⟩) (fun hHeld=>?_)
 clear hKz Kz
 (try simp only[Ab,Act.put])
 refine wpAnyH_done (by kernel_rfl) ?_ _
 go_wp2_with fail
 have LR4:=KR4.lt
 refine bodyPost_ret (v:=.agg #[.slice c0 c1 c2,.slice c3 c4 c5,.slice e0 e1 e2,.slice e3 e4 e5]) (by first|exact results_cell_row rfl _ _ (w.heap.size+1) _ _ _ _ (by rfl) (Blk.row KR4 _) Tryz.underlying72 rfl (by kernel_rfl)) rfl ?_
 have o3':=o3.ext (Ext.trans Aa x4)
 refine⟨_,rfl,by exact Aa,_,[.slice c0 c1 c2,.slice c3 c4 c5],[.slice e0 e1 e2,.slice e3 e4 e5],F3,F4,rfl,rfl,rfl,?_,?_,?_,rfl⟩
 .
  exact(Dc.keepK (Dc.monoK (B':=w.heap.size+2) o3' (by(try simp only[Dj]);omega)) ((Chg.refl _ _).setRow (Or.inl oM) _)).monoK oM
 .
  exact(Dc.keepK (Dc.monoK (B':=w.heap.size+2) o4 (by(try simp only[Dj]);omega)) ((Chg.refl _ _).setRow (Or.inl oM) _)).monoK oM
 refine List.Pairwise.cons (fun b hb k hk hk2=>?_) (List.Pairwise.cons (fun b hb=>by cases hb) List.Pairwise.nil)
 simp only[List.mem_cons,List.not_mem_nil,or_false] at hb
 subst hb
 have:=d3 k hk;have:=d4 k hk2
 omega
theorem mN(w:World)(a0 a3 b0 b3:Option Addr)(a1 a2 a4 a5 b1 b2 b4 b5:Nat):Calls Tryz.prog 402 #[.agg #[.slice a0 a1 a2,.slice a3 a4 a5,.slice b0 b1 b2,.slice b3 b4 b5]] w (Cp w (.agg #[.slice a0 a1 a2,.slice a3 a4 a5,.slice b0 b1 b2,.slice b3 b4 b5])):=by
 go_enter Tryz.func402,Tryz.ntmps402
 go_wp2_with fail
 refine bodyPost_ret (by simp[results,Tryz.results402,go_sem];try rfl) rfl ?_
 exact⟨rfl,by exact Aa⟩
theorem iZ{w:World}{v u:Value}{t:Jg}{row:List Int}(h:Kf w v t)(hu:Aj 1 w u row)(at_:Int)(ok:kW t at_ row=true):Calls Tryz.prog 348 #[v,.int .i64 at_,u] w (Ret w fun r w'=>∃v',r=.tuple #[v',.bool true]/\∃F,Hm w.heap.size w' v' (bwD t at_ row) F):=by
 obtain⟨p0,p1,rfl,l0,l1,g0,g1⟩:=h
 obtain⟨a0,a1,a2,a3,a4,a5,e0⟩:=g0.shape
 obtain rfl:=Ct (M:=[_,_]) e0
 obtain⟨b0,b1,b2,b3,b4,b5,e1⟩:=g1.shape
 obtain rfl:=Ct (M:=[_,_]) e1
 clear e0 e1
 obtain⟨ok1,ok2,ok3,ok4⟩:=aO ok
 have O1:=Lib.hid ok1;have O2:=Lib.hid ok2;have O3:=Lib.hid ok3;have O4:=Lib.hid ok4
 clear ok ok1 ok2 ok3 ok4
 have qT:∀(w:World) (a:Option Addr) (n c n' c':Nat),(binOp .eql 62 (.slice a n c) (.slice none n' c')).run Tryz.prog w=.ok (.bool a.isNone) w:=fun w a n c n' c'=>Lib.run_eql_slice_nil w _ _ a n c n' c' Tryz.underlying62
 obtain⟨W1,hW1⟩:∃W1,W1=(w.alloc (.cells #[.slice a0 a1 a2,.slice a3 a4 a5,.slice b0 b1 b2,.slice b3 b4 b5] 72)).alloc (.cells #[.slice none 0 0,.slice none 0 0,.slice none 0 0,.slice none 0 0] 72):=⟨_,rfl⟩
 have E1:Ext w W1:=by rw[hW1];exact((Ext.refl _).alloc _).alloc _
 have KT1:Blk W1 w.heap.size 72 #[.slice a0 a1 a2,.slice a3 a4 a5,.slice b0 b1 b2,.slice b3 b4 b5]:=by rw[hW1];exact(Blk.new _ _ _).alloc _
 have KR1:Blk W1 (w.heap.size+1) 72 #[.slice none 0 0,.slice none 0 0,.slice none 0 0,.slice none 0 0]:=by rw[hW1];exact Blk.new2 _ _ _ _
 have z1:W1.heap.size=w.heap.size+1+1:=by rw[hW1];simp
 have HW1:=Lib.hid hW1
 clear hW1
 go_enter Tryz.func348,Tryz.ntmps348
 go_wp2_with fail
 rw[<-HW1.out]
 have CT1:=KT1.cell;have LT1:=KT1.lt
 go_wp2_with fail
 obtain⟨d0,d1⟩:=t
 obtain⟨h00,h01⟩:=Gw.get g0
 obtain⟨h10,h11⟩:=Gw.get g1
 refine(Yw _ _ d0.Kept _ d0.Wait _ d1.Kept _ d1.Wait (h00.ext E1) (h01.ext E1) (h10.ext E1) (h11.ext E1)).mono ?_
 rintro e w2⟨rfl,x2⟩
 rw[show Jy (⟨⟨d0.Kept,d0.Wait⟩,⟨d1.Kept,d1.Wait⟩⟩:Jg)=true from O1.out]
 have E2:Ext w w2:=E1.trans x2;have z2:=x2.size
 have KT2:=KT1.ext x2;have KR2:=KR1.ext x2
 clear CT1 LT1 h00 h01 h10 h11;have CT2:=KT2.cell;have LT2:=KT2.lt
 go_wp2_with fail
 refine(nH _ _ row (hu.ext E2)).mono ?_
 rintro e w3⟨_,rfl,x3,o3⟩
 have E3:Ext w w3:=E2.trans x3;have z3:=x3.size
 have KT3:=KT2.ext x3;have KR3:=KR2.ext x3
 clear CT2 LT2;have CT3:=KT3.cell;have LT3:=KT3.lt
 have i3:=o3.ints
 obtain⟨ua,uc,rfl,huc,-,hun⟩:=i3.one
 obtain⟨x9,b9,o9,-,rfl,-,-⟩:=hun 0 O2.out
 clear hun x9
 go_wp2_with fail
 refine(fG _ _ _ _ _ _ _ _ _ _ _ _ _).mono ?_
 rintro e w4⟨rfl,x4⟩
 have E4:Ext w w4:=E3.trans x4;have z4:=x4.size
 have KR4:=KR3.ext x4;have i4:=i3.ext x4
 clear CT3 LT3
 go_wp2_with fail
 go_loopw [27] (fun i wr=>Ext w4 wr/\((i=.int .i64 0/\Blk wr (w4.heap.size) 306 #[.slice a0 a1 a2,.slice a3 a4 a5,.slice b0 b1 b2,.slice b3 b4 b5])\/(i=.int .i64 1/\∃c0 c1 c2 c3 c4 c5 F,Blk wr (w4.heap.size) 306 #[.slice c0 c1 c2,.slice c3 c4 c5,.slice b0 b1 b2,.slice b3 b4 b5]/\Dc (w4.heap.size+1) wr (.agg #[.slice c0 c1 c2,.slice c3 c4 c5]) (wrD d0 at_ (Gc row)) F)\/(i=.int .i64 2/\∃c0 c1 c2 c3 c4 c5 F e0 e1 e2 e3 e4 e5 G,Blk wr (w4.heap.size) 306 #[.slice c0 c1 c2,.slice c3 c4 c5,.slice e0 e1 e2,.slice e3 e4 e5]/\Dc (w4.heap.size+1) wr (.agg #[.slice c0 c1 c2,.slice c3 c4 c5]) (wrD d0 at_ (Gc row)) F/\Dc (w4.heap.size+1) wr (.agg #[.slice e0 e1 e2,.slice e3 e4 e5]) (wrD d1 at_ (Gc row)) G/\∀k,k ∈ F->k ∈ G->False))) (fun i _=>2 - (intOf i).toNat)
 case atStart=>exact⟨by exact Aa,Or.inl ⟨rfl,Blk.cast (by exact Bv) (by first|rfl|simp)⟩⟩
 case round =>
  obtain⟨x,hcase⟩:=hrel
  have zx:=x.size
  rcases hcase with⟨rfl,KA⟩|⟨rfl,c0,c1,c2,c3,c4,c5,F,KA,oc⟩|⟨rfl,c0,c1,c2,c3,c4,c5,F,e0,e1,e2,e3,e4,e5,G,KA,oc,oe,hd⟩
  .
   have hix:∀W:World,(Instr.index 306 (.agg #[.slice a0 a1 a2,.slice a3 a4 a5,.slice b0 b1 b2,.slice b3 b4 b5]) (.int .i64 0)).run Tryz.prog W=.ok (.agg #[.slice a0 a1 a2,.slice a3 a4 a5]) W:=fun _=>rfl
   have CA:=KA.cell;have LA:=KA.lt;have FA:=KA.frozen
   go_wp2_with fail
   refine(mK (g0.ext Aa) (i4.ext Aa) at_).mono ?_
   rintro e w5⟨_,rfl,x5,v5,rfl,F5,o5⟩
   rw[O3.out]
   have d5:=o5.low;(try simp only[World.size_alloc,World.size_setCell] at d5)
   have o5:=Dc.monoK (B':=w4.heap.size+1) o5 (by(try simp only[World.size_alloc,World.size_setCell]);omega)
   obtain⟨c0,c1,c2,c3,c4,c5,rfl⟩:=o5.rd.shape
   have X5:Ext wr w5:=Ext.trans Aa x5
   have z5:=X5.size
   have KA5:=KA.ext X5;clear CA FA LA;have CA5:=KA5.cell;have LA5:=KA5.lt;have FA5:=KA5.frozen
   clear x5
   go_wp2_with fail
   go_roundw
   case rel =>
    refine⟨by exact Aa,Or.inr (Or.inl ⟨by go_num,c0,c1,c2,c3,c4,c5,F5,?_,?_⟩)⟩
    .
     exact Blk.cast (by exact Bv) (by first|rfl|simp)
    exact Dc.keepK o5 Hx
   case measure=>simp[intOf]
  .
   have ocl:=fun k hk=>(oc.low k hk).2
   have hix:∀W:World,(Instr.index 306 (.agg #[.slice a0 a1 a2,.slice a3 a4 a5,.slice b0 b1 b2,.slice b3 b4 b5]) (.int .i64 1)).run Tryz.prog W=.ok (.agg #[.slice b0 b1 b2,.slice b3 b4 b5]) W:=fun _=>rfl
   have CA:=KA.cell;have LA:=KA.lt;have FA:=KA.frozen
   go_wp2_with fail
   refine(mK (g1.ext Aa) (i4.ext Aa) at_).mono ?_
   rintro e w5⟨_,rfl,x5,v5,rfl,F5,o5⟩
   rw[O4.out]
   have d5:=o5.low;(try simp only[World.size_alloc,World.size_setCell] at d5)
   have o5:=Dc.monoK (B':=w4.heap.size+1) o5 (by(try simp only[World.size_alloc,World.size_setCell]);omega)
   obtain⟨e0,e1,e2,e3,e4,e5,rfl⟩:=o5.rd.shape
   have X5:Ext wr w5:=Ext.trans Aa x5
   have z5:=X5.size
   have KA5:=KA.ext X5;clear CA FA LA;have CA5:=KA5.cell;have LA5:=KA5.lt;have FA5:=KA5.frozen
   clear x5
   go_wp2_with fail
   go_roundw
   case rel =>
    refine⟨by exact Aa,Or.inr (Or.inr ⟨by go_num,c0,c1,c2,c3,c4,c5,F,e0,e1,e2,e3,e4,e5,F5,?_,?_,?_,?_⟩)⟩
    .
     exact Blk.cast (by exact Bv) (by first|rfl|simp)
    .
     exact Dc.keepK oc Hx
    .
     exact Dc.keepK o5 Hx
    exact fun k h1 h2=>by have:=ocl k h1;have:=d5 k h2;omega
   case measure=>simp[intOf]
  have CA:=KA.cell;have LA:=KA.lt;have FA:=KA.frozen
  have KR9:=KR4.ext x;have CR9:=KR9.cell;have LR9:=KR9.lt;have FR9:=KR9.frozen
  go_wp2_with fail
  refine(mN _ _ _ _ _ _ _ _ _ _ _ _ _).mono ?_
  rintro e wz⟨rfl,xz⟩
  have KRz:=KR9.ext xz;have CRz:=KRz.cell;have LRz:=KRz.lt;have FRz:=KRz.frozen
  have oc:=Dc.keepK oc (Chg.ext (Chg.refl _ _) xz);have oe:=Dc.keepK oe (Chg.ext (Chg.refl _ _) xz)
  have EW:Ext w wz:=(E4.trans x).trans xz
  clear CA FA LA CR9 LR9 FR9
  go_wp2_with fail
  refine bodyPost_ret (by simp[results,Tryz.results348,go_sem,CRz,FRz,LRz];try rfl) rfl ?_
  refine⟨_,rfl,by exact Aa,_,rfl,_,[.slice c0 c1 c2,.slice c3 c4 c5],[.slice e0 e1 e2,.slice e3 e4 e5],F,G,rfl,rfl,rfl,?_,?_,?_,rfl⟩
  .
   exact(Dc.keepK oc Hx).monoK oM
  .
   exact(Dc.keepK oe Hx).monoK oM
  refine List.Pairwise.cons (fun b hb k hk hk2=>?_) (List.Pairwise.cons (fun b hb=>by cases hb) List.Pairwise.nil)
  simp only[List.mem_cons,List.not_mem_nil,or_false] at hb
  subst hb
  exact hd k hk hk2
theorem fJ{w:World}{v:Value}{t:Jg}(h:Kf w v t)(ok:Jy t=true):Calls Tryz.prog 349 #[v] w (Ret w fun r w'=>∃F,Hm w.heap.size w' r (bsD t) F):=by
 obtain⟨p0,p1,rfl,l0,l1,g0,g1⟩:=h
 obtain⟨a0,a1,a2,a3,a4,a5,e0⟩:=g0.shape
 obtain rfl:=Ct (M:=[_,_]) e0
 obtain⟨b0,b1,b2,b3,b4,b5,e1⟩:=g1.shape
 obtain rfl:=Ct (M:=[_,_]) e1
 clear e0 e1
 have O1:=Lib.hid ok;clear ok
 obtain⟨W1,hW1⟩:∃W1,W1=(w.alloc (.cells #[.slice a0 a1 a2,.slice a3 a4 a5,.slice b0 b1 b2,.slice b3 b4 b5] 72)).alloc (.cells #[.slice none 0 0,.slice none 0 0,.slice none 0 0,.slice none 0 0] 72):=⟨_,rfl⟩
 have E1:Ext w W1:=by rw[hW1];exact((Ext.refl _).alloc _).alloc _
 have KT1:Blk W1 w.heap.size 72 #[.slice a0 a1 a2,.slice a3 a4 a5,.slice b0 b1 b2,.slice b3 b4 b5]:=by rw[hW1];exact(Blk.new _ _ _).alloc _
 have KR1:Blk W1 (w.heap.size+1) 72 #[.slice none 0 0,.slice none 0 0,.slice none 0 0,.slice none 0 0]:=by rw[hW1];exact Blk.new2 _ _ _ _
 have z1:W1.heap.size=w.heap.size+1+1:=by rw[hW1];simp
 have HW1:=Lib.hid hW1
 clear hW1
 go_enter Tryz.func349,Tryz.ntmps349
 go_wp2_with fail
 rw[<-HW1.out]
 have CT1:=KT1.cell;have LT1:=KT1.lt
 go_wp2_with fail
 obtain⟨d0,d1⟩:=t
 obtain⟨h00,h01⟩:=Gw.get g0
 obtain⟨h10,h11⟩:=Gw.get g1
 refine(Yw _ _ d0.Kept _ d0.Wait _ d1.Kept _ d1.Wait (h00.ext E1) (h01.ext E1) (h10.ext E1) (h11.ext E1)).mono ?_
 rintro e w2⟨rfl,x2⟩
 rw[show Jy (⟨⟨d0.Kept,d0.Wait⟩,⟨d1.Kept,d1.Wait⟩⟩:Jg)=true from O1.out]
 have E2:Ext w w2:=E1.trans x2;have z2:=x2.size
 have KT2:=KT1.ext x2;have KR2:=KR1.ext x2
 clear CT1 LT1;have CT2:=KT2.cell;have LT2:=KT2.lt
 have h00:=h00.ext E2;have h01:=h01.ext E2;have h10:=h10.ext E2;have h11:=h11.ext E2
 go_wp2_with fail
 refine(fG _ _ _ _ _ _ _ _ _ _ _ _ _).mono ?_
 rintro e w4⟨rfl,x4⟩
 have E4:Ext w w4:=E2.trans x4;have z4:=x4.size
 have KR4:=KR2.ext x4
 clear CT2 LT2
 go_wp2_with fail
 go_loopw [13] (fun i wr=>Ext w4 wr/\((i=.int .i64 0/\Blk wr (w4.heap.size) 306 #[.slice a0 a1 a2,.slice a3 a4 a5,.slice b0 b1 b2,.slice b3 b4 b5])\/(i=.int .i64 1/\∃c0 c1 c2 c3 c4 c5 F,Blk wr (w4.heap.size) 306 #[.slice c0 c1 c2,.slice c3 c4 c5,.slice b0 b1 b2,.slice b3 b4 b5]/\Dc (w4.heap.size+1) wr (.agg #[.slice c0 c1 c2,.slice c3 c4 c5]) (Jf true [] d0) F)\/(i=.int .i64 2/\∃c0 c1 c2 c3 c4 c5 F e0 e1 e2 e3 e4 e5 G,Blk wr (w4.heap.size) 306 #[.slice c0 c1 c2,.slice c3 c4 c5,.slice e0 e1 e2,.slice e3 e4 e5]/\Dc (w4.heap.size+1) wr (.agg #[.slice c0 c1 c2,.slice c3 c4 c5]) (Jf true [] d0) F/\Dc (w4.heap.size+1) wr (.agg #[.slice e0 e1 e2,.slice e3 e4 e5]) (Jf true [] d1) G/\∀k,k ∈ F->k ∈ G->False))) (fun i _=>2 - (intOf i).toNat)
 case atStart=>exact⟨by exact Aa,Or.inl ⟨rfl,Blk.cast (by exact Bv) (by first|rfl|simp)⟩⟩
 case round =>
  obtain⟨x,hcase⟩:=hrel
  have zx:=x.size
  rcases hcase with⟨rfl,KA⟩|⟨rfl,c0,c1,c2,c3,c4,c5,F,KA,oc⟩|⟨rfl,c0,c1,c2,c3,c4,c5,F,e0,e1,e2,e3,e4,e5,G,KA,oc,oe,hd⟩
  .
   have hix:∀W:World,(Instr.index 306 (.agg #[.slice a0 a1 a2,.slice a3 a4 a5,.slice b0 b1 b2,.slice b3 b4 b5]) (.int .i64 0)).run Tryz.prog W=.ok (.agg #[.slice a0 a1 a2,.slice a3 a4 a5]) W:=fun _=>rfl
   have CA:=KA.cell;have LA:=KA.lt;have FA:=KA.frozen
   go_wp2_with fail
   refine(iE _ _ d0.Kept _ d0.Wait (h00.ext Aa) (h01.ext Aa)).mono ?_
   rintro e w5⟨_,rfl,x5,g5⟩
   obtain⟨F5,o5⟩:=g5.ow
   have d5:=o5.low;(try simp only[World.size_alloc,World.size_setCell] at d5)
   have o5:=Dc.monoK (B':=w4.heap.size+1) o5 (by(try simp only[World.size_alloc,World.size_setCell]);omega)
   obtain⟨c0,c1,c2,c3,c4,c5,rfl⟩:=o5.rd.shape
   have X5:Ext wr w5:=Ext.trans Aa x5
   have z5:=X5.size
   have KA5:=KA.ext X5;clear CA FA LA;have CA5:=KA5.cell;have LA5:=KA5.lt;have FA5:=KA5.frozen
   clear x5
   go_wp2_with fail
   go_roundw
   case rel =>
    refine⟨by exact Aa,Or.inr (Or.inl ⟨by go_num,c0,c1,c2,c3,c4,c5,F5,?_,?_⟩)⟩
    .
     exact Blk.cast (by exact Bv) (by first|rfl|simp)
    exact Dc.keepK o5 Hx
   case measure=>simp[intOf]
  .
   have ocl:=fun k hk=>(oc.low k hk).2
   have hix:∀W:World,(Instr.index 306 (.agg #[.slice a0 a1 a2,.slice a3 a4 a5,.slice b0 b1 b2,.slice b3 b4 b5]) (.int .i64 1)).run Tryz.prog W=.ok (.agg #[.slice b0 b1 b2,.slice b3 b4 b5]) W:=fun _=>rfl
   have CA:=KA.cell;have LA:=KA.lt;have FA:=KA.frozen
   go_wp2_with fail
   refine(iE _ _ d1.Kept _ d1.Wait (h10.ext Aa) (h11.ext Aa)).mono ?_
   rintro e w5⟨_,rfl,x5,g5⟩
   obtain⟨F5,o5⟩:=g5.ow
   have d5:=o5.low;(try simp only[World.size_alloc,World.size_setCell] at d5)
   have o5:=Dc.monoK (B':=w4.heap.size+1) o5 (by(try simp only[World.size_alloc,World.size_setCell]);omega)
   obtain⟨e0,e1,e2,e3,e4,e5,rfl⟩:=o5.rd.shape
   have X5:Ext wr w5:=Ext.trans Aa x5
   have z5:=X5.size
   have KA5:=KA.ext X5;clear CA FA LA;have CA5:=KA5.cell;have LA5:=KA5.lt;have FA5:=KA5.frozen
   clear x5
   go_wp2_with fail
   go_roundw
   case rel =>
    refine⟨by exact Aa,Or.inr (Or.inr ⟨by go_num,c0,c1,c2,c3,c4,c5,F,e0,e1,e2,e3,e4,e5,F5,?_,?_,?_,?_⟩)⟩
    .
     exact Blk.cast (by exact Bv) (by first|rfl|simp)
    .
     exact Dc.keepK oc Hx
    .
     exact Dc.keepK o5 Hx
    exact fun k h1 h2=>by have:=ocl k h1;have:=d5 k h2;omega
   case measure=>simp[intOf]
  have CA:=KA.cell;have LA:=KA.lt;have FA:=KA.frozen
  have KR9:=KR4.ext x;have CR9:=KR9.cell;have LR9:=KR9.lt;have FR9:=KR9.frozen
  go_wp2_with fail
  refine(mN _ _ _ _ _ _ _ _ _ _ _ _ _).mono ?_
  rintro e wz⟨rfl,xz⟩
  have KRz:=KR9.ext xz;have CRz:=KRz.cell;have LRz:=KRz.lt;have FRz:=KRz.frozen
  have oc:=Dc.keepK oc (Chg.ext (Chg.refl _ _) xz);have oe:=Dc.keepK oe (Chg.ext (Chg.refl _ _) xz)
  have EW:Ext w wz:=(E4.trans x).trans xz
  clear CA FA LA CR9 LR9 FR9
  go_wp2_with fail
  refine bodyPost_ret (by simp[results,Tryz.results349,go_sem,CRz,FRz,LRz];try rfl) rfl ?_
  refine⟨_,rfl,by exact Aa,_,[.slice c0 c1 c2,.slice c3 c4 c5],[.slice e0 e1 e2,.slice e3 e4 e5],F,G,rfl,rfl,rfl,?_,?_,?_,rfl⟩
  .
   exact(Dc.keepK oc Hx).monoK oM
  .
   exact(Dc.keepK oe Hx).monoK oM
  refine List.Pairwise.cons (fun b hb k hk hk2=>?_) (List.Pairwise.cons (fun b hb=>by cases hb) List.Pairwise.nil)
  simp only[List.mem_cons,List.not_mem_nil,or_false] at hb
  subst hb
  exact hd k hk hk2
theorem Kf.shape{w:World}{v:Value}{d:Jg}(h:Kf w v d):∃a0 a1 a2 a3 a4 a5 a6 a7 a8 a9 a10 a11,v=.agg #[.slice a0 a1 a2,.slice a3 a4 a5,.slice a6 a7 a8,.slice a9 a10 a11]:=by
 obtain⟨p0,p1,rfl,l0,l1,g0,g1⟩:=h
 obtain⟨a0,n0,k0,a1,n1,k1,e0⟩:=g0.shape
 obtain rfl:=Ct (M:=[_,_]) e0
 obtain⟨b0,m0,j0,b1,m1,j1,e1⟩:=g1.shape
 obtain rfl:=Ct (M:=[_,_]) e1
 exact⟨_,_,_,_,_,_,_,_,_,_,_,_,rfl⟩
theorem jA{w:World}{v u:Value}{t:Jg}{row:List Int}(h:Kf w v t)(hu:Aj 1 w u row)(at_:Int)(ok:kW t at_ row=true)(ok2:Jy (bwD t at_ row)=true):Calls Tryz.prog 272 #[v,.int .i64 at_,u] w (Ret w fun r w'=>∃F,Hm w.heap.size w' r (bsD (bwD t at_ row)) F):=by
 obtain⟨a0,a1,a2,a3,a4,a5,a6,a7,a8,a9,a10,a11,rfl⟩:=Kf.shape h
 have O1:=Lib.hid ok;have O2:=Lib.hid ok2;clear ok ok2
 obtain⟨W1,hW1⟩:∃W1,W1=(w.alloc (.cells #[.slice a0 a1 a2,.slice a3 a4 a5,.slice a6 a7 a8,.slice a9 a10 a11] 72)).alloc (.cells #[.slice none 0 0,.slice none 0 0,.slice none 0 0,.slice none 0 0] 72):=⟨_,rfl⟩
 have E1:Ext w W1:=by rw[hW1];exact((Ext.refl _).alloc _).alloc _
 have KT1:Blk W1 w.heap.size 72 #[.slice a0 a1 a2,.slice a3 a4 a5,.slice a6 a7 a8,.slice a9 a10 a11]:=by rw[hW1];exact(Blk.new _ _ _).alloc _
 have KR1:Blk W1 (w.heap.size+1) 72 #[.slice none 0 0,.slice none 0 0,.slice none 0 0,.slice none 0 0]:=by rw[hW1];exact Blk.new2 _ _ _ _
 have z1:W1.heap.size=w.heap.size+1+1:=by rw[hW1];simp
 have HW1:=Lib.hid hW1
 clear hW1
 go_enter Tryz.func272,Tryz.ntmps272
 go_wp2_with fail
 rw[<-HW1.out]
 have CT1:=KT1.cell;have LT1:=KT1.lt
 go_wp2_with fail
 refine(fH (h.ext E1) (hu.ext E1) at_ O1.out).mono ?_
 rintro e w2⟨_,rfl,x2,v2,rfl,F2,o2⟩
 have E2:Ext w w2:=E1.trans x2;have z2:=x2.size
 have r2:=o2.rd
 obtain⟨b0,b1,b2,b3,b4,b5,b6,b7,b8,b9,b10,b11,rfl⟩:=Kf.shape r2
 have KR2:=KR1.ext x2
 clear CT1 LT1
 go_wp2_with fail
 refine(cG (r2.ext Aa) O2.out).mono ?_
 rintro e w3⟨_,rfl,x3,F3,o3⟩
 have E3:Ext w w3:=Ext.trans E2 (Ext.trans Aa x3);have z3:=x3.size;(try simp only[World.size_alloc] at z3)
 obtain⟨c0,c1,c2,c3,c4,c5,c6,c7,c8,c9,c10,c11,rfl⟩:=Kf.shape o3.rd
 have KR3:Blk w3 (w.heap.size+1) 72 #[.slice none 0 0,.slice none 0 0,.slice none 0 0,.slice none 0 0]:=KR2.ext (Ext.trans Aa x3)
 obtain⟨CR3,FR3,LR3⟩:=KR3.cfl
 go_wp2_with fail
 refine bodyPost_ret (by simp[results,Tryz.results272,go_sem,CR3,FR3,LR3];try rfl) rfl ?_
 refine⟨_,rfl,by exact Aa,F3,?_⟩
 exact(Hm.keep (Hm.mono (B':=w.heap.size+2) o3 (by(try simp only[World.size_alloc]);omega)) (((((Chg.refl _ _).setLow oM _).setLow oM _).setLow oM _).setLow oM _)).mono oM
theorem kX{w:World}{v u:Value}{t:Jg}{row:List Int}(h:Kf w v t)(hu:Aj 1 w u row)(at_:Int)(ok:kW t at_ row=true)(ok2:Jy (bwD t at_ row)=true):Calls Tryz.prog 267 #[v,.int .i64 at_,u] w (Ret w fun r w'=>∃F,Hm w.heap.size w' r (bsD (bwD t at_ row)) F):=by
 obtain⟨a0,a1,a2,a3,a4,a5,a6,a7,a8,a9,a10,a11,rfl⟩:=Kf.shape h
 have O1:=Lib.hid ok;have O2:=Lib.hid ok2;clear ok ok2
 obtain⟨W1,hW1⟩:∃W1,W1=(w.alloc (.cells #[.slice a0 a1 a2,.slice a3 a4 a5,.slice a6 a7 a8,.slice a9 a10 a11] 72)).alloc (.cells #[.slice none 0 0,.slice none 0 0,.slice none 0 0,.slice none 0 0] 72):=⟨_,rfl⟩
 have E1:Ext w W1:=by rw[hW1];exact((Ext.refl _).alloc _).alloc _
 have KT1:Blk W1 w.heap.size 72 #[.slice a0 a1 a2,.slice a3 a4 a5,.slice a6 a7 a8,.slice a9 a10 a11]:=by rw[hW1];exact(Blk.new _ _ _).alloc _
 have KR1:Blk W1 (w.heap.size+1) 72 #[.slice none 0 0,.slice none 0 0,.slice none 0 0,.slice none 0 0]:=by rw[hW1];exact Blk.new2 _ _ _ _
 have z1:W1.heap.size=w.heap.size+1+1:=by rw[hW1];simp
 have HW1:=Lib.hid hW1
 clear hW1
 go_enter Tryz.func267,Tryz.ntmps267
 go_wp2_with fail
 rw[<-HW1.out]
 have CT1:=KT1.cell;have LT1:=KT1.lt
 go_wp2_with fail
 refine(iZ (h.ext E1) (hu.ext E1) at_ O1.out).mono ?_
 rintro e w2⟨_,rfl,x2,v2,rfl,F2,o2⟩
 have E2:Ext w w2:=E1.trans x2;have z2:=x2.size
 have r2:=o2.rd
 obtain⟨b0,b1,b2,b3,b4,b5,b6,b7,b8,b9,b10,b11,rfl⟩:=Kf.shape r2
 have KR2:=KR1.ext x2
 clear CT1 LT1
 go_wp2_with fail
 refine(fJ (r2.ext Aa) O2.out).mono ?_
 rintro e w3⟨_,rfl,x3,F3,o3⟩
 have E3:Ext w w3:=Ext.trans E2 (Ext.trans Aa x3);have z3:=x3.size;(try simp only[World.size_alloc] at z3)
 obtain⟨c0,c1,c2,c3,c4,c5,c6,c7,c8,c9,c10,c11,rfl⟩:=Kf.shape o3.rd
 have KR3:Blk w3 (w.heap.size+1) 72 #[.slice none 0 0,.slice none 0 0,.slice none 0 0,.slice none 0 0]:=KR2.ext (Ext.trans Aa x3)
 obtain⟨CR3,FR3,LR3⟩:=KR3.cfl
 go_wp2_with fail
 refine bodyPost_ret (by simp[results,Tryz.results267,go_sem,CR3,FR3,LR3];try rfl) rfl ?_
 refine⟨_,rfl,by exact Aa,F3,?_⟩
 exact(Hm.keep (Hm.mono (B':=w.heap.size+2) o3 (by(try simp only[World.size_alloc]);omega)) (((((Chg.refl _ _).setLow oM _).setLow oM _).setLow oM _).setLow oM _)).mono oM
theorem mO:Eh ⟨0,0,0,[]⟩=true:=by
 have h1:Ii []=true:=Jq Ex.nil
 simp[Eh,h1,inb,Ea,Ej,Nh]
theorem Af.litV(w:World)(e:TypeId)(xs:List Int)(h:xs.length<=1000)(g:Nat)(hg:g=w.heap.size):Aj 1 (w.alloc (.cells (xs.map (Value.int .i64)).toArray e)) (.slice (some ⟨g,0,none⟩) xs.length xs.length) xs:=by subst hg;exact(Af.lit w e xs h).ints
theorem tN{n m:Nat}(h:m=n+2):List.replicate m (0:Int)=List.replicate n 0++[0,0]:=by rw[h,<-List.replicate_append_replicate];rfl
theorem qQ(c:Int):(Fp [] c).Client=0:=rfl
theorem qR(c:Int):(Fp [] c).Seq=0:=rfl
theorem qS(c:Int):(Fp [] c).Index=0:=rfl
theorem jB(w:World):Calls Tryz.prog 274 #[.agg #[.int .i64 0,.int .i64 0,.int .i64 0,.slice none 0 0]] w (Ret w fun r w'=>Af w.heap.size 2 1 w' r (List.replicate 13 0)):=by
 obtain⟨W1,hW1⟩:∃W1,W1=w.alloc (.cells #[.int .i64 0,.int .i64 0,.int .i64 0,.slice none 0 0] 75):=⟨_,rfl⟩
 have E1:Ext w W1:=by rw[hW1];exact(Ext.refl _).alloc _
 have K1:Blk W1 w.heap.size 75 #[.int .i64 0,.int .i64 0,.int .i64 0,.slice none 0 0]:=by rw[hW1];exact Blk.new _ _ _
 have z1:W1.heap.size=w.heap.size+1:=by rw[hW1];simp
 have HW1:=Lib.hid hW1
 clear hW1
 go_enter Tryz.func274,Tryz.ntmps274
 go_wp2_with fail
 rw[<-HW1.out]
 have C1:=K1.cell;have L1:=K1.lt
 go_wp2_with fail
 refine(Py _ 0 0 0 _ [] (Af.nil 0 290 _ _).ints).mono ?_
 rintro e w2⟨rfl,x2⟩
 rw[mO]
 have E2:Ext w w2:=E1.trans x2;have z2:=x2.size
 have K2:=K1.ext x2
 clear C1 L1;have C2:=K2.cell;have L2:=K2.lt
 have O0:=Af.lit w2 2 [0,0,0] (by simp)
 obtain⟨i0,hi,hz0,hz1,hz2⟩:=info_parts Ec
 go_wp2_with fail
 go_loopw [3,4] (fun sl kk wr=>∃k:Nat,2<=k/\k<=6/\kk=.int .i64 k/\Ext w2 wr/\Af w2.heap.size 2 1 wr sl (List.replicate (2*k - 1) 0)) (fun _ kk _=>6 - (intOf kk).toNat)
 case atStart=>exact⟨2,by omega,by omega,rfl,by exact Aa,O0⟩
 case round =>
  obtain⟨k,hk1,hk2,rfl,x3,o3⟩:=hrel
  have K3:=K2.ext x3;clear C2 L2;have C3:=K3.cell;have L3:=K3.lt;have z3:=x3.size
  obtain⟨b3,m3,c3,rfl⟩:=o3.shape
  by_cases hlt:k<6
  .
   go_wp2_with fail
   refine(dF _ _ [] _ (Af.nil 0 290 _ _).ints (Jq Ex.nil)).mono ?_
   rintro e w4⟨rfl,x4⟩
   have X4:=x3.trans x4
   have z4:=x4.size
   have o4:=Af.ext o3 x4
   rw[qQ,qR,qS]
   go_wp2_with (first|(at_builtin;refine Fg rfl (.tmp 25) (.tmp 30) 62 rfl 2 i0 _ 1 8 Tryz.underlying62 hi hz0 hz1 hz2 rfl dC w2.heap.size _ ((List.replicate (2*k - 1) (0:Int)).map (.int .i64)) rfl (Af.ext o4 Aa) (.slice (some ⟨w4.heap.size+1,0,none⟩) 2 2) (([0,0]:List Int).map (.int .i64)) rfl (Af.litV _ 2 [0,0] (by simp) (w4.heap.size+1) (by simp)) (ints_oneCell _ _) 1000 (by simp;omega) (by unfold maxLen;omega) oM (by simp;omega) w2 Aa (Nat.le_refl _) ?_;rotate_right;intro v5 w5 O5 E5 _))
   go_roundw
   case rel=>exact⟨k+1,by omega,by omega,by go_num,E5,by rw[tN (n:=2*k - 1) oM];simpa[Af] using O5⟩
   case measure=>simp[intOf];omega
  obtain rfl:k=6:=by omega
  go_wp2_with (first|(at_builtin;refine Fg rfl (.tmp 32) (.tmp 37) 62 rfl 2 i0 _ 1 8 Tryz.underlying62 hi hz0 hz1 hz2 rfl dC w2.heap.size _ ((List.replicate (2*6 - 1) (0:Int)).map (.int .i64)) rfl (Af.ext o3 Aa) (.slice (some ⟨wr.heap.size,0,none⟩) 2 2) (([0,0]:List Int).map (.int .i64)) rfl (Af.litV _ 2 [0,0] (by simp) wr.heap.size rfl) (ints_oneCell _ _) 1000 (by simp) (by unfold maxLen;omega) oM (by simp;omega) w2 Aa (Nat.le_refl _) ?_;rotate_right;intro v5 w5 O5 E5 _))
  go_ret
  refine⟨_,rfl,E2.trans E5,Own.mono (?_:Own w2.heap.size 2 1 w5 v5 _) oM⟩
  rw[tN (n:=11) rfl];simpa using O5
theorem oD(w:World)(c:Int):Calls Tryz.prog 350 #[.slice none 0 0,.int .i64 c] w (Cp w (.agg #[.int .i64 0,.int .i64 0,.int .i64 0])):=by
 go_enter Tryz.func350,Tryz.ntmps350
 go_wp2_with fail
 go_loopw [9] (fun i wr=>i=.int .i64 0/\Ext w wr/\Blk wr w.heap.size 290 #[.int .i64 0,.int .i64 0,.int .i64 0]) (fun _ _=>0)
 case atStart=>exact⟨rfl,by exact Aa,Blk.new _ _ _⟩
 case round =>
  obtain⟨rfl,x,K⟩:=hrel
  have CR:=K.cell;have FR:=K.frozen;have LR:=K.lt
  go_wp2_with fail
  refine bodyPost_ret (by simp[results,Tryz.results350,go_sem,CR,FR,LR];try rfl) rfl ?_
  exact⟨rfl,by exact Aa⟩
theorem kY(w:World):Calls Tryz.prog 269 #[.agg #[.int .i64 0,.int .i64 0,.int .i64 0,.slice none 0 0]] w (Ret w fun r w'=>Af w.heap.size 2 1 w' r (List.replicate 13 0)):=by
 obtain⟨W1,hW1⟩:∃W1,W1=w.alloc (.cells #[.int .i64 0,.int .i64 0,.int .i64 0,.slice none 0 0] 75):=⟨_,rfl⟩
 have E1:Ext w W1:=by rw[hW1];exact(Ext.refl _).alloc _
 have K1:Blk W1 w.heap.size 75 #[.int .i64 0,.int .i64 0,.int .i64 0,.slice none 0 0]:=by rw[hW1];exact Blk.new _ _ _
 have z1:W1.heap.size=w.heap.size+1:=by rw[hW1];simp
 have HW1:=Lib.hid hW1
 clear hW1
 go_enter Tryz.func269,Tryz.ntmps269
 go_wp2_with fail
 rw[<-HW1.out]
 have C1:=K1.cell;have L1:=K1.lt
 go_wp2_with fail
 refine(Lq _ 0 0 0 _ [] (Af.nil 0 290 _ _).ints).mono ?_
 rintro e w2⟨rfl,x2⟩
 rw[mO]
 have E2:Ext w w2:=E1.trans x2;have z2:=x2.size
 have K2:=K1.ext x2
 clear C1 L1;have C2:=K2.cell;have L2:=K2.lt
 have O0:=Af.lit w2 2 [0,0,0] (by simp)
 obtain⟨i0,hi,hz0,hz1,hz2⟩:=info_parts Ec
 go_wp2_with fail
 go_loopw [3,4] (fun sl kk wr=>∃k:Nat,2<=k/\k<=6/\kk=.int .i64 k/\Ext w2 wr/\Af w2.heap.size 2 1 wr sl (List.replicate (2*k - 1) 0)) (fun _ kk _=>6 - (intOf kk).toNat)
 case atStart=>exact⟨2,by omega,by omega,rfl,by exact Aa,O0⟩
 case round =>
  obtain⟨k,hk1,hk2,rfl,x3,o3⟩:=hrel
  have K3:=K2.ext x3;clear C2 L2;have C3:=K3.cell;have L3:=K3.lt;have z3:=x3.size
  obtain⟨b3,m3,c3,rfl⟩:=o3.shape
  by_cases hlt:k<6
  .
   have hle:decide ((k:Int)<=5)=true:=by simp;omega
   go_wp2_with fail
   refine(oD _ _).mono ?_
   rintro e w4⟨rfl,x4⟩
   have X4:=x3.trans x4
   have z4:=x4.size
   have o4:=Af.ext o3 x4
   go_wp2_with (first|(at_builtin;refine Fg rfl (.tmp 24) (.tmp 29) 62 rfl 2 i0 _ 1 8 Tryz.underlying62 hi hz0 hz1 hz2 rfl dC w2.heap.size _ ((List.replicate (2*k - 1) (0:Int)).map (.int .i64)) rfl (Af.ext o4 Aa) (.slice (some ⟨w4.heap.size+1,0,none⟩) 2 2) (([0,0]:List Int).map (.int .i64)) rfl (Af.litV _ 2 [0,0] (by simp) (w4.heap.size+1) (by simp)) (ints_oneCell _ _) 1000 (by simp;omega) (by unfold maxLen;omega) oM (by simp;omega) w2 Aa (Nat.le_refl _) ?_;rotate_right;intro v5 w5 O5 E5 _))
   go_roundw
   case rel=>exact⟨k+1,by omega,by omega,by go_num,E5,by rw[tN (n:=2*k - 1) oM];simpa[Af] using O5⟩
   case measure=>simp[intOf];omega
  obtain rfl:k=6:=by omega
  go_wp2_with (first|(at_builtin;refine Fg rfl (.tmp 31) (.tmp 36) 62 rfl 2 i0 _ 1 8 Tryz.underlying62 hi hz0 hz1 hz2 rfl dC w2.heap.size _ ((List.replicate (2*6 - 1) (0:Int)).map (.int .i64)) rfl (Af.ext o3 Aa) (.slice (some ⟨wr.heap.size,0,none⟩) 2 2) (([0,0]:List Int).map (.int .i64)) rfl (Af.litV _ 2 [0,0] (by simp) wr.heap.size rfl) (ints_oneCell _ _) 1000 (by simp) (by unfold maxLen;omega) oM (by simp;omega) w2 Aa (Nat.le_refl _) ?_;rotate_right;intro v5 w5 O5 E5 _))
  go_ret
  refine⟨_,rfl,E2.trans E5,Own.mono (?_:Own w2.heap.size 2 1 w5 v5 _) oM⟩
  rw[tN (n:=11) rfl];simpa using O5
def mP:Jg:=bsD (bwD (aN 22) 0 (List.replicate 13 0))
def Gi:Ap:=⟨mP,⟨0,0,0,[]⟩,⟨0,0,0,[]⟩,false,⟨0,0,[]⟩,[],0,[]⟩
theorem bw0:kW (aN 22) 0 (List.replicate 13 0)=true:=by kernel_rfl
theorem bw1:Jy (bwD (aN 22) 0 (List.replicate 13 0))=true:=by kernel_rfl
theorem kZ(w:World):Calls Tryz.prog 173 #[] w (Ret w fun r w'=>∃F,Hm w.heap.size w' r mP F):=by
 go_enter Tryz.func173,Tryz.ntmps173
 go_wp2_with fail
 refine(oC _ 22).mono ?_
 rintro e w1⟨_,rfl,x1,F1,o1⟩
 have E1:Ext w w1:=Ext.trans Aa x1;have z1:=x1.size;simp only[World.size_alloc] at z1
 have K1:Blk w1 w.heap.size 72 #[.slice none 0 0,.slice none 0 0,.slice none 0 0,.slice none 0 0]:=(Blk.new _ _ _).ext x1
 have r1:=o1.rd
 obtain⟨a0,a1,a2,a3,a4,a5,a6,a7,a8,a9,a10,a11,rfl⟩:=Kf.shape r1
 go_wp2_with fail
 refine(jB _).mono ?_
 rintro e w2⟨_,rfl,x2,o2⟩
 have E2:Ext w w2:=E1.trans x2;have z2:=x2.size
 have K2:=K1.ext x2
 go_wp2_with fail
 refine(jA (r1.ext x2) o2.ints 0 bw0 bw1).mono ?_
 rintro e w3⟨_,rfl,x3,F3,o3⟩
 have E3:Ext w w3:=E2.trans x3;have z3:=x3.size
 obtain⟨c0,c1,c2,c3,c4,c5,c6,c7,c8,c9,c10,c11,rfl⟩:=Kf.shape o3.rd
 have KR3:=K2.ext x3
 obtain⟨CR3,FR3,LR3⟩:=KR3.cfl
 go_wp2_with fail
 refine bodyPost_ret (by simp[results,Tryz.results173,go_sem,CR3,FR3,LR3];try rfl) rfl ?_
 refine⟨_,rfl,by exact Aa,F3,?_⟩
 exact(Hm.keep (Hm.mono (B':=w.heap.size+1) o3 oM) (((((Chg.refl _ _).setLow oM _).setLow oM _).setLow oM _).setLow oM _)).mono oM
theorem oG(w:World):Calls Tryz.prog 168 #[] w (Ret w fun r w'=>∃F,Hm w.heap.size w' r mP F):=by
 go_enter Tryz.func168,Tryz.ntmps168
 go_wp2_with fail
 refine(qP _ 22).mono ?_
 rintro e w1⟨_,rfl,x1,F1,o1⟩
 have E1:Ext w w1:=Ext.trans Aa x1;have z1:=x1.size;simp only[World.size_alloc] at z1
 have K1:Blk w1 w.heap.size 72 #[.slice none 0 0,.slice none 0 0,.slice none 0 0,.slice none 0 0]:=(Blk.new _ _ _).ext x1
 have r1:=o1.rd
 obtain⟨a0,a1,a2,a3,a4,a5,a6,a7,a8,a9,a10,a11,rfl⟩:=Kf.shape r1
 go_wp2_with fail
 refine(kY _).mono ?_
 rintro e w2⟨_,rfl,x2,o2⟩
 have E2:Ext w w2:=E1.trans x2;have z2:=x2.size
 have K2:=K1.ext x2
 go_wp2_with fail
 refine(kX (r1.ext x2) o2.ints 0 bw0 bw1).mono ?_
 rintro e w3⟨_,rfl,x3,F3,o3⟩
 have E3:Ext w w3:=E2.trans x3;have z3:=x3.size
 obtain⟨c0,c1,c2,c3,c4,c5,c6,c7,c8,c9,c10,c11,rfl⟩:=Kf.shape o3.rd
 have KR3:=K2.ext x3
 obtain⟨CR3,FR3,LR3⟩:=KR3.cfl
 go_wp2_with fail
 refine bodyPost_ret (by simp[results,Tryz.results168,go_sem,CR3,FR3,LR3];try rfl) rfl ?_
 refine⟨_,rfl,by exact Aa,F3,?_⟩
 exact(Hm.keep (Hm.mono (B':=w.heap.size+1) o3 oM) (((((Chg.refl _ _).setLow oM _).setLow oM _).setLow oM _).setLow oM _)).mono oM
theorem Uq(B:Nat)(w:World):Mc B w (.agg ([.int .i64 0,.int .i64 0,.int .i64 0,.slice none 0 0]:List Value).toArray) ⟨0,0,0,[]⟩ []:=⟨.slice none 0 0,[],rfl,⟨Af.nil _ _ _ _,rfl⟩,by simp,rfl⟩
theorem fK(B:Nat)(w:World):Mr B w (.agg ([.int .i64 0,.int .i64 0,.slice none 0 0]:List Value).toArray) ⟨0,0,[]⟩ []:=⟨.slice none 0 0,[],rfl,⟨Af.nil _ _ _ _,rfl⟩,by simp,rfl⟩
theorem oH(w:World):Calls Tryz.prog 77 #[] w (Ret w fun r w'=>∃F,Io w.heap.size w' r Gi F):=by
 go_enter Tryz.func77,Tryz.ntmps77
 go_wp2_with fail
 refine(kZ _).mono ?_
 rintro e w1⟨_,rfl,x1,F1,o1⟩
 have E1:Ext w w1:=Ext.trans Aa x1;have z1:=x1.size;simp only[World.size_alloc] at z1
 have K1:Blk w1 w.heap.size 81 #[.slice none 0 0,.slice none 0 0,.slice none 0 0,.slice none 0 0,.int .i64 0,.int .i64 0,.int .i64 0,.slice none 0 0,.int .i64 0,.int .i64 0,.int .i64 0,.slice none 0 0,.bool false,.int .i64 0,.int .i64 0,.slice none 0 0,.slice none 0 0,.int .i64 0,.slice none 0 0]:=(Blk.new _ _ _).ext x1
 obtain⟨a0,a1,a2,a3,a4,a5,a6,a7,a8,a9,a10,a11,rfl⟩:=Kf.shape o1.rd
 go_wp2_with (first|(refine Fq rfl 81 (.tmp 0) (.tmp 2) rfl rfl rfl _ K1 (by kernel_rfl) rfl (by kernel_rfl) ?_;intro KF))
 refine bodyPost_ret (by first|exact results_cell_row rfl _ _ w.heap.size _ _ _ _ (by rfl) KF Tryz.underlying81 rfl (by kernel_rfl)) rfl ?_
 refine⟨_,rfl,by exact Aa,_,[.slice a0 a1 a2,.slice a3 a4 a5,.slice a6 a7 a8,.slice a9 a10 a11],[.int .i64 0,.int .i64 0,.int .i64 0,.slice none 0 0],[.int .i64 0,.int .i64 0,.int .i64 0,.slice none 0 0],[.int .i64 0,.int .i64 0,.slice none 0 0],.slice none 0 0,.slice none 0 0,F1,[],[],[],[],[],rfl,rfl,rfl,rfl,rfl,?_,Uq _ _,Uq _ _,fK _ _,⟨Af.nil _ _ _ _,rfl⟩,⟨Af.nil _ _ _ _,rfl⟩,by simp,rfl⟩
 exact(Hm.keep (Hm.mono (B':=w.heap.size+1) o1 (by simp)) ((Chg.refl _ _).setRow (Or.inl oM) _)).mono oM
theorem qV(w:World):Calls Tryz.prog 71 #[] w (Ret w fun r w'=>∃F,Io w.heap.size w' r Gi F):=by
 go_enter Tryz.func71,Tryz.ntmps71
 go_wp2_with fail
 refine(oG _).mono ?_
 rintro e w1⟨_,rfl,x1,F1,o1⟩
 have E1:Ext w w1:=Ext.trans Aa x1;have z1:=x1.size;simp only[World.size_alloc] at z1
 have K1:Blk w1 w.heap.size 81 #[.slice none 0 0,.slice none 0 0,.slice none 0 0,.slice none 0 0,.int .i64 0,.int .i64 0,.int .i64 0,.slice none 0 0,.int .i64 0,.int .i64 0,.int .i64 0,.slice none 0 0,.bool false,.int .i64 0,.int .i64 0,.slice none 0 0,.slice none 0 0,.int .i64 0,.slice none 0 0]:=(Blk.new _ _ _).ext x1
 obtain⟨a0,a1,a2,a3,a4,a5,a6,a7,a8,a9,a10,a11,rfl⟩:=Kf.shape o1.rd
 go_wp2_with (first|(refine Fq rfl 81 (.tmp 0) (.tmp 2) rfl rfl rfl _ K1 (by kernel_rfl) rfl (by kernel_rfl) ?_;intro KF))
 refine bodyPost_ret (by first|exact results_cell_row rfl _ _ w.heap.size _ _ _ _ (by rfl) KF Tryz.underlying81 rfl (by kernel_rfl)) rfl ?_
 refine⟨_,rfl,by exact Aa,_,[.slice a0 a1 a2,.slice a3 a4 a5,.slice a6 a7 a8,.slice a9 a10 a11],[.int .i64 0,.int .i64 0,.int .i64 0,.slice none 0 0],[.int .i64 0,.int .i64 0,.int .i64 0,.slice none 0 0],[.int .i64 0,.int .i64 0,.slice none 0 0],.slice none 0 0,.slice none 0 0,F1,[],[],[],[],[],rfl,rfl,rfl,rfl,rfl,?_,Uq _ _,Uq _ _,fK _ _,⟨Af.nil _ _ _ _,rfl⟩,⟨Af.nil _ _ _ _,rfl⟩,by simp,rfl⟩
 exact(Hm.keep (Hm.mono (B':=w.heap.size+1) o1 (by simp)) ((Chg.refl _ _).setRow (Or.inl oM) _)).mono oM
end Go.Proofs.YtkpmbocbbgocbaaGreat
