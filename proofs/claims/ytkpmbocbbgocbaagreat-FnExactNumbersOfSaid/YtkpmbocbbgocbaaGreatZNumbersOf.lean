/- The statement FnExactNumbersOf: walk and row. -/
import Derived.Test.YtkpmbocbbgocbaaGreatPN0
import Derived.Test.YtkpmbocbbgocbaaGreatPB12
import Derived.Test.YtkpmbocbbgocbaaGreatPM5
set_option linter.unusedSimpArgs false
set_option linter.unusedVariables false
set_option maxHeartbeats 40000000
set_option maxRecDepth 100000
namespace Go.Proofs.YtkpmbocbbgocbaaGreat
open Go.RowKit
open Go.Proofs.YtkpmbocbbgocbaaGreat
theorem cI5(l:List wK):tot 2 l<=2*Mj l:=by
 unfold tot Mj
 induction l with
 | nil=>simp
 | cons x l ih=>simp only[List.map_cons,List.sum_cons,List.length_cons];omega
theorem aT0(d:EI):UT d<=IQ d:=by
 have h1:=aN9 (Bd d.Kept);have h2:=bA8 (Dq d.Wait)
 unfold UT IQ;omega
theorem aZ2{d:DU}(h:JZ d<=1048576):UR d<=1000000000:=by
 have a1:=aT0 d.Log.Two.A;have a2:=aT0 d.Log.Two.B
 have a3:=aN9 (Bd d.Store.Disk.Kept);have a4:=bA8 (Dq d.Store.Disk.Wait)
 have a5:=cI5 (GK d.Net.Flight)
 simp only[JZ,SE,SC,KP,OS,PH,WE,QX,JX,LP,ID,TJ,WF,SD,WG,TK,QW,TL] at h
 simp only[UR,QM,TX,ME,TY,QI,aB3,TV,NI,EK,GV,UQ,aB4,YI,XL,YT,WN,LR,WO]
 omega
theorem aZ3{d:DU}(h:JZ d<=1048576):(NN d).length<=1000000000:=by
 have:=SK d
 unfold NN
 split
 .
  omega
 simp
end Go.Proofs.YtkpmbocbbgocbaaGreat
namespace Go.Proofs.YtkpmbocbbgocbaaGreat
open Go.RowKit Go.G8
theorem aE6(w:World)(v:Value)(d:DU)(h0:EC w v d):Calls Tryz.prog 5 #[v] w (Fz w (.bool true)):=by
 obtain⟨L,rfl,hL,-⟩:=h0.cells
 obtain⟨W0,hW0⟩:∃W0,W0=w.alloc (.cells L.toArray 65):=⟨_,rfl⟩
 have E0:Ext w W0:=by rw[hW0];exact(Ext.refl _).alloc _
 have RL:W0.rangeAt w.heap.size 0 L:=by rw[hW0];exact Bk.range (A:=[]) (C:=[]) (Bk.cast (Bk.new _ _ _) (by simp)) rfl
 have z0:w.heap.size<W0.heap.size:=by rw[hW0];simp
 go_enter Tryz.func5,Tryz.ntmps5
 go_upto_region 1 with(fail)
 rw[<-hW0];clear hW0
 go_wp2_with (first|(refine wpList_load_mid rfl 65 _ rfl (w.heap.size) 0 (by rfl) L _ (As RL Ag) Tryz.underlying65 rfl (by rw[hL];kernel_rfl) ?_))
 refine(bV3 (h0.ext Ag) (left:=1048576) oM oM).mono ?_
 rintro e w1⟨v1,rfl,hx1,hv1⟩
 have X1:Ext W0 w1:=hx1;clear hx1
 rcases hv1 with⟨rfl,hq⟩|⟨rfl,hq⟩
 .
  clear hq
  go_wp2_with fail
  go_ret
  exact⟨rfl,by exact Ag⟩
 obtain⟨z,hz⟩:∃z,z=(1048576:Int) - (JZ d:Nat):=⟨_,rfl⟩
 rw[<-hz]
 have hd:decide (z<0)=false:=by simp;omega
 have hs:JZ d<=1048576:=by omega
 clear hz hq
 go_wp2_with (first|(refine wpList_load_mid rfl 65 _ rfl (w.heap.size) 0 (by rfl) L _ (As RL Ag) Tryz.underlying65 rfl (by rw[hL];kernel_rfl) ?_))
 refine(WI (h0.ext Ag) hs).mono ?_
 rintro e w2⟨u2,rfl,hx2,F2,o2⟩
 have X2:Ext W0 w2:=Ext.trans Ag hx2;clear hx2
 go_wp2_with fail
 refine(aM1 (o2.rd.ext Ag) (by have:=SK d;omega)).mono ?_
 rintro e w3⟨c3,rfl,hx,o3⟩
 have X3:Ext W0 w3:=Ext.trans Ag hx;clear hx o2
 obtain⟨N,hN⟩:∃N,N=NN d:=⟨_,rfl⟩
 rw[<-hN] at o3
 have lN:LR N<=1000000000:=by rw[hN];exact aZ3 hs
 have HN:=Lib.hid hN;clear hN
 obtain⟨B3,F3,o3⟩:∃B F,EV B w3 c3 N F:=⟨_,_,o3,rfl⟩
 obtain⟨a3,n3,k3,rfl⟩:=o3.1.shape
 have f3:=Lib.hid o3.low
 have z3:=X3.size
 as_aux_lemma =>
 go_wp2_with (first|(refine wpList_load_mid rfl 65 _ rfl (w.heap.size) 0 (by rfl) L _ (As RL Ag) Tryz.underlying65 rfl (by rw[hL];kernel_rfl) ?_))
 refine(WI (h0.ext Ag) hs).mono ?_
 rintro e w4⟨u4,rfl,hx4,F4,o4⟩
 have Y4:Ext w3 w4:=Ext.trans Ag hx4
 have X4:Ext W0 w4:=X3.trans Y4
 have o3:=o3.keep (Chg.ext (Chg.refl _ _) Y4)
 have hx4:=hx4.size;try simp only[World.size_alloc] at hx4
 have f4:=Lib.hid o4.low
 have z4:=Y4.size;clear Y4
 obtain⟨M,rfl,hM,oneM⟩:=o4.rd.cells
 go_wp2_with (first|(refine wpList_load_mid rfl 106 _ rfl (w4.heap.size) 0 (by rfl) M _ (As RM Ag) Tryz.underlying106 rfl (by rw[hM];kernel_rfl) ?_)|(refine BA rfl 106 _ _ rfl w4.heap.size 0 (.agg M.toArray) M (by rfl) (by rfl) rfl 106 [] [Value.slice none 0 0,Value.slice none 0 0,Value.slice none 0 0,Value.slice none 0 0,Value.int .i64 0,Value.int .i64 0,Value.int .i64 0,Value.slice none 0 0,Value.int .i64 0,Value.int .i64 0,Value.int .i64 0,Value.slice none 0 0,Value.bool false,Value.int .i64 0,Value.int .i64 0,Value.slice none 0 0,Value.slice none 0 0,Value.int .i64 0,Value.slice none 0 0,Value.slice none 0 0,Value.slice none 0 0,Value.int .i64 0,Value.int .i64 0,Value.slice none 0 0,Value.slice none 0 0,Value.int .i64 0,Value.int .i64 0,Value.int .i64 0,Value.int .i64 0,Value.int .i64 0,Value.int .i64 0,Value.int .i64 0,Value.int .i64 0,Value.int .i64 0,Value.int .i64 0,Value.int .i64 0,Value.int .i64 0,Value.int .i64 0,Value.slice none 0 0,Value.bool false,Value.int .i64 0,Value.int .i64 0,Value.int .i64 0,Value.int .i64 0,Value.int .i64 0,Value.int .i64 0,Value.int .i64 0,Value.int .i64 0,Value.int .i64 0,Value.int .i64 0,Value.int .i64 0,Value.int .i64 0,Value.int .i64 0,Value.slice none 0 0,Value.bool false,Value.int .i64 0,Value.int .i64 0,Value.int .i64 0,Value.int .i64 0,Value.int .i64 0,Value.int .i64 0,Value.int .i64 0,Value.slice none 0 0,Value.slice none 0 0,Value.int .i64 0,Value.int .i64 0,Value.slice none 0 0,Value.slice none 0 0,Value.int .i64 0,Value.slice none 0 0,Value.slice none 0 0,Value.slice none 0 0,Value.slice none 0 0] [] (Bk.cast (Bk.new w4 106 [Value.slice none 0 0,Value.slice none 0 0,Value.slice none 0 0,Value.slice none 0 0,Value.int .i64 0,Value.int .i64 0,Value.int .i64 0,Value.slice none 0 0,Value.int .i64 0,Value.int .i64 0,Value.int .i64 0,Value.slice none 0 0,Value.bool false,Value.int .i64 0,Value.int .i64 0,Value.slice none 0 0,Value.slice none 0 0,Value.int .i64 0,Value.slice none 0 0,Value.slice none 0 0,Value.slice none 0 0,Value.int .i64 0,Value.int .i64 0,Value.slice none 0 0,Value.slice none 0 0,Value.int .i64 0,Value.int .i64 0,Value.int .i64 0,Value.int .i64 0,Value.int .i64 0,Value.int .i64 0,Value.int .i64 0,Value.int .i64 0,Value.int .i64 0,Value.int .i64 0,Value.int .i64 0,Value.int .i64 0,Value.int .i64 0,Value.slice none 0 0,Value.bool false,Value.int .i64 0,Value.int .i64 0,Value.int .i64 0,Value.int .i64 0,Value.int .i64 0,Value.int .i64 0,Value.int .i64 0,Value.int .i64 0,Value.int .i64 0,Value.int .i64 0,Value.int .i64 0,Value.int .i64 0,Value.int .i64 0,Value.slice none 0 0,Value.bool false,Value.int .i64 0,Value.int .i64 0,Value.int .i64 0,Value.int .i64 0,Value.int .i64 0,Value.int .i64 0,Value.int .i64 0,Value.slice none 0 0,Value.slice none 0 0,Value.int .i64 0,Value.int .i64 0,Value.slice none 0 0,Value.slice none 0 0,Value.int .i64 0,Value.slice none 0 0,Value.slice none 0 0,Value.slice none 0 0,Value.slice none 0 0]) (by simp)) rfl (by rw[hM];rfl) (by rw[hM];kernel_rfl) oneM ?_;intro V5 hV5 B5;have X5:Ext W0 V5:=Ext.ofSet hV5 Ag (by have:=X4.size;omega);have Y5:Ext w4 V5:=Ext.ofSet hV5 Ag (Nat.le_refl _);have o5:=o4.keep (Chg.ofSet hV5 (Chg.ext (Chg.refl _ _) ((Ext.refl _).alloc _)) (Or.inr (Nat.le_refl _)));have l5:=B5.lt;have RM:V5.rangeAt w4.heap.size 0 M:=Bk.range (A:=[]) (C:=[]) (Bk.cast B5 (by simp)) rfl;have o3:=o3.keep (Chg.ext (Chg.refl _ _) Y5);clear hV5 B5 o4 Y5))
 refine(YQ (o5.rd.ext Ag) (by have:=SK d;omega)).mono ?_
 rintro e w6⟨c6,rfl,hx,o6⟩
 rw[<-HN.out] at o6
 have Y6:Ext V5 w6:=Ext.trans Ag hx
 have hx:=hx.size;try simp only[World.size_alloc] at hx
 have X6:Ext W0 w6:=X5.trans Y6
 have RM:=As RM Y6;have o5:=o5.keep (Chg.ext (Chg.refl _ _) Y6);have o3:=o3.keep (Chg.ext (Chg.refl _ _) Y6)
 obtain⟨B6,hB6⟩:∃B,B=V5.heap.size:=⟨_,rfl⟩
 obtain⟨F6,o6⟩:∃F,EV B6 w6 c6 N F:=⟨_,o6.mono oM,rfl⟩
 obtain⟨a6,n6,k6,rfl⟩:=o6.1.shape
 have f6:=Lib.hid o6.low
 have z6:=Y6.size;clear Y6
 as_aux_lemma =>
 go_wp2_with fail
 refine(MB _ _ _ N (o6.rd.ext Ag) (o3.rd.ext Ag)).mono ?_
 rintro e w7⟨rfl,hx⟩
 have Y7:Ext w6 w7:=Ext.trans Ag hx
 have X7:Ext W0 w7:=X6.trans Y7
 have RM:=As RM Y7;have o5:=o5.keep (Chg.ext (Chg.refl _ _) Y7);have o3:=o3.keep (Chg.ext (Chg.refl _ _) Y7);have o6:=o6.keep (Chg.ext (Chg.refl _ _) Y7)
 clear hx Y7
 as_aux_lemma =>
 go_upto_region 10 with(fail)
 have RL7:=As RL X7
 have g0:=h0.ext (E0.trans X7)
 have h5:=o5.rd
 refine wp_region_held_drew (S:=fun w'=>Ext w7 w') (by kernel_rfl) (by(try dsimp only);exact Ag) (fun hHeld=>?_)
 refine wpAnyH_take (i:=0) (v:=.agg M.toArray) rfl (by kernel_rfl) (by kernel_rfl) (by kernel_rfl) (fun _ _ _ h=>h) (yieldsIf_load_mid (by rfl) 106 _ rfl (w4.heap.size) 0 (by rfl) M _ (fun _ hSw=>As RM hSw) Tryz.underlying106 rfl (by rw[hM];kernel_rfl)) (by assumption) ?_
 (try simp only[Ak,Act.put])
 refine wpAnyH_take (i:=1) (v:=.agg L.toArray) rfl (by kernel_rfl) (by kernel_rfl) (by kernel_rfl) (fun _ _ _ h=>h) (yieldsIf_load_mid (by rfl) 65 _ rfl (w.heap.size) 0 (by rfl) L _ (fun _ hSw=>As RL7 hSw) Tryz.underlying65 rfl (by rw[hL];kernel_rfl)) (by assumption) ?_
 (try simp only[Ak,Act.put])
 refine wr1 2 fun Kz hKz=>?_
 (try simp only[Ak])
 go_simp
 go_at_call 10
 refine(WI (g0.ext Ag) hs).mono ?_
 rintro e w8⟨u8,rfl,hx,F8,o8⟩
 have Y8:Ext w7 w8:=Ext.trans Ag hx
 clear hx
 refine hKz.out _ _ (by(try dsimp only);exact Ag) (fun hHeld=>?_)
 clear hKz Kz
 (try simp only[Ak,Act.put])
 refine wr1 3 fun Kz hKz=>?_
 (try simp only[Ak])
 go_simp
 go_at_call 12
 refine(bV4 (h5.ext Ag) (o8.rd.ext Ag)).mono ?_
 rintro e w9⟨rfl,hx⟩
 have Y9:Ext w7 w9:=Ext.trans Ag hx
 clear hx o8
 refine hKz.out _ _ (by(try dsimp only);exact Ag) (fun hHeld=>?_)
 clear hKz Kz
 (try simp only[Ak,Act.put])
 refine wt 4 ?_
 (try simp only[Ak,Act.put])
 refine wpAnyH_done (by kernel_rfl) ?_ _
 have X9:Ext W0 w9:=X7.trans Y9
 have RM:=As RM Y9;have o5:=o5.keep (Chg.ext (Chg.refl _ _) Y9);have o3:=o3.keep (Chg.ext (Chg.refl _ _) Y9);have o6:=o6.keep (Chg.ext (Chg.refl _ _) Y9)
 have z9:=X9.size
 clear Y8 Y9 h5 g0 RL7
 as_aux_lemma =>
 have nW:=aZ2 hs
 go_wp2_with (first|(refine wpList_load_mid rfl 106 _ rfl (w4.heap.size) 0 (by rfl) M _ (As RM Ag) Tryz.underlying106 rfl (by rw[hM];kernel_rfl) ?_))
 refine(aX9 (o5.keep (Chg.ext (Chg.refl _ _) Ag)) oM oM).mono ?_
 rintro e v1⟨rfl,U,-⟩
 have V1:Ext W0 v1:=Ext.upd_below Ag U (fun i hi=>by have:=f4.out i hi;omega)
 have o3:=(o3.keep (Chg.ext (Chg.refl _ _) Ag)).upd U (fun i h1 h2=>by have:=f3.out i h1;have:=f4.out i h2;omega)
 have o6:=(o6.keep (Chg.ext (Chg.refl _ _) Ag)).upd U (fun i h1 h2=>by have:=f6.out i h1;have:=f4.out i h2;omega)
 clear U
 obtain⟨q1,hq1⟩:∃q:Int,q=1+((UR d:Nat):Int):=⟨_,rfl⟩
 rw[<-hq1]
 have b1:decide (q1<0)=false:=by simp;omega
 clear hq1
 as_aux_lemma =>
 go_wp2_with fail
 refine(MB _ _ _ N (o6.rd.ext Ag) (o3.rd.ext Ag)).mono ?_
 rintro e v2⟨rfl,hx⟩
 have Y2:Ext v1 v2:=Ext.trans Ag hx
 have V2:Ext W0 v2:=V1.trans Y2
 have o3:=o3.keep (Chg.ext (Chg.refl _ _) Y2);have o6:=o6.keep (Chg.ext (Chg.refl _ _) Y2)
 clear hx Y2
 as_aux_lemma =>
 go_wp2_with fail
 refine(YE (o6.keep (Chg.ext (Chg.refl _ _) Ag)) oM oM).mono ?_
 rintro e v3⟨rfl,U,m6⟩
 have V3:Ext W0 v3:=Ext.upd_below Ag U (fun i hi=>by have:=f6.out i hi;omega)
 have o3:=(o3.keep (Chg.ext (Chg.refl _ _) Ag)).upd U (fun i h1 h2=>by have:=f3.out i h1;have:=f6.out i h2;omega)
 clear U
 obtain⟨q2,hq2⟩:∃q:Int,q=1+((LR N:Nat):Int):=⟨_,rfl⟩
 rw[<-hq2]
 have b2:decide (q2<0)=false:=by simp;omega
 have b3:(q2 != q2)=false:=by simp
 have HQ:=Lib.hid hq2;clear hq2
 as_aux_lemma =>
 go_wp2_with fail
 refine(YF (m6.ext Ag) oM oM).mono ?_
 rintro e v4⟨rfl,hx⟩
 rw[<-HQ.out]
 have Y4:Ext v3 v4:=Ext.trans Ag hx
 have V4:Ext W0 v4:=V3.trans Y4
 have o3:=o3.keep (Chg.ext (Chg.refl _ _) Y4);have m6:=m6.ext Y4
 clear hx Y4
 as_aux_lemma =>
 have b2:decide (q2<0)=false:=by simp;have:=HQ.out;omega
 have b3:(q2 != q2)=false:=by simp
 go_wp2_with (first|(refine wpList_load_mid rfl 65 _ rfl (w.heap.size) 0 (by rfl) L _ (As RL Ag) Tryz.underlying65 rfl (by rw[hL];kernel_rfl) ?_))
 refine(WI (h0.ext (E0.trans (Ext.trans V4 Ag))) hs).mono ?_
 rintro e v5⟨u5,rfl,hx,F5,p5⟩
 have Y5:Ext v4 v5:=Ext.trans Ag hx
 clear hx
 go_wp2_with fail
 refine(YQ (p5.rd.ext Ag) (by have:=SK d;omega)).mono ?_
 rintro e v6⟨c6,rfl,hx,o6⟩
 rw[<-HN.out] at o6
 have Y6:Ext v4 v6:=Ext.trans Ag hx
 have i6:=o6.ints;clear hx o6 p5 Y5
 obtain⟨a7,n7,k7,rfl⟩:=i6.shape
 go_wp2_with fail
 refine(MB _ _ _ N (i6.ext Ag) (o3.rd.ext Ag)).mono ?_
 rintro e v7⟨rfl,hx⟩
 have Y7:Ext v4 v7:=Ext.trans Ag hx
 have V7:Ext W0 v7:=V4.trans Y7
 have m6:=m6.ext Y7
 clear hx Y6 Y7 o3 i6
 as_aux_lemma =>
 have b2:decide (q2<0)=false:=by simp;have:=HQ.out;omega
 have b3:(q2 != q2)=false:=by simp
 go_wp2_with fail
 refine(YF (m6.ext Ag) oM oM).mono ?_
 rintro e v8⟨rfl,hx⟩
 rw[<-HQ.out]
 have V8:Ext W0 v8:=V7.trans (Ext.trans Ag hx)
 clear hx
 go_wp2_with fail
 go_ret
 exact⟨rfl,E0.trans Ag⟩
end Go.Proofs.YtkpmbocbbgocbaaGreat
namespace Go.Proofs.YtkpmbocbbgocbaaGreat.fnExactNumbersOf
open Go.ChangeShapes Go.WideShapes Go.ChangeAt Go.RowKit Go.G8
open Go.Proofs.YtkpmbocbbgocbaaGreat.facts (b2)
theorem lifted(os:Os)(started:os.Started)(H:Type)(enc:TypeId × Value->H):ReturnsInHanded {} Tryz.checked os 5 .any (Rows.fnExactNumbersOfSpec.pre6 enc Tryz.prog Tryz.f5 Rows.fnExactNumbersOfRow.domain false) (Rows.fnExactNumbersOfSpec.post enc Tryz.prog Tryz.f5 false true false false):=by
 refine returnsInHanded_of_change (C:=Tryz.checked) own started (by kernel_rfl) Tryz.func5
  (ChangeSpec.witness6 (enc:=enc) (C:=Tryz.checked) false ⟨#[],#[.agg #[.slice none 0 0,.slice none 0 0,.slice none 0 0,.slice none 0 0,.int .i64 0,.int .i64 0,.int .i64 0,.slice none 0 0,.int .i64 0,.int .i64 0,.int .i64 0,.slice none 0 0,.bool false,.int .i64 0,.int .i64 0,.slice none 0 0,.slice none 0 0,.int .i64 0,.slice none 0 0,.slice none 0 0,.slice none 0 0,.int .i64 0,.int .i64 0,.slice none 0 0,.slice none 0 0,.int .i64 0,.int .i64 0,.int .i64 0,.int .i64 0,.int .i64 0,.int .i64 0,.int .i64 0,.int .i64 0,.int .i64 0,.int .i64 0,.int .i64 0,.int .i64 0,.int .i64 0,.slice none 0 0,.bool false,.int .i64 0,.int .i64 0,.int .i64 0,.int .i64 0,.int .i64 0,.int .i64 0,.int .i64 0,.int .i64 0,.int .i64 0,.int .i64 0,.int .i64 0,.int .i64 0,.int .i64 0,.slice none 0 0,.bool false,.int .i64 0,.int .i64 0,.int .i64 0,.int .i64 0,.int .i64 0,.int .i64 0,.int .i64 0,.slice none 0 0,.slice none 0 0,.int .i64 0,.int .i64 0,.slice none 0 0,.slice none 0 0,.int .i64 0,.slice none 0 0,.slice none 0 0,.slice none 0 0,.slice none 0 0]],[]⟩ 8 (by kernel_rfl) (by kernel_rfl) (by kernel_rfl) (by kernel_rfl)) ?_
 intro W base args ds gs before hval0 hW _ _
 have hval:∀(j:Nat) t v,Tryz.f5.params[j]?=some t->args[j]?=some v->Value.okWide Tryz.prog W .any base t v:=hval0
 have hW':=hW
 obtain⟨p,q,hA0,hV,rfl,hfz,hnd⟩:=hW
 have hA:DataW.TrodAll enc Tryz.prog W 0 (fun _=>true) true Tryz.f5.params.toList args.toList ds p:=hA0
 rw[Tryz.params5] at hA hval
 obtain⟨v0,vs0,d0,ds0,p0,q0,hargs,rfl,rfl,h0,r0⟩:=trodAll_cons hA
 obtain⟨rfl,rfl,rfl⟩:=trodAll_nil r0
 obtain rfl:args=#[v0]:=by cases args;simp_all
 obtain⟨rfl,rfl⟩:=trodVars_none hV
 have k0:=h0
 have lt0:∀x ∈ p0,x.block<W.heap.size:=by obtain⟨m,hm⟩:=k0;exact DataW.trod_lt m _ _ _ hm
 have hv0:=hval 0 65 v0 rfl rfl
 unfold Value.okWide at hv0
 rw[Tryz.underlying65] at hv0
 obtain⟨cs0,rfl,_,_⟩:=hv0
 obtain⟨m0,hm0⟩:=h0
 obtain⟨d0',g0⟩:=bX5 hm0
 have g0:EC W (.agg cs0) d0':=by simpa[Value.cells] using g0
 clear hA0 hval0
 refine(aE6 W _ d0' g0).mono fun e W' ⟨he,bel0⟩=>?_
 have bel:Below W.heap.size W W':=bel0
 subst he
 exact⟨_,rfl,_,_,_,[],_,[],hW',trodAll_mk1 (shut_bool Tryz.underlying4 _),(trodAll_cons_mk (Below.trod cC8 (by kernel_rfl) (of_decide_eq_true (by kernel_rfl)) k0 bel lt0) trodAll_mk0),rfl,bel.frame _,fun h=>by cases h⟩
theorem k0:(Rows.fnExactNumbersOfRow.wf (OpenSpec.ofChange Rows.fnExactNumbersOfSpec))=true:=by kernel_rfl
theorem k1:(laidOutB Tryz.checked.prog)=true:=facts.k1
theorem k2:(mapsRowed Tryz.checked.prog)=true:=facts.k2
theorem k3:(Tryz.f5.params.all (Tryz.checked.prog.readableRec ·))=true:=by kernel_rfl
theorem k4:(namedTie Tryz.checked.prog Rows.fnExactNumbersOfRow.named Rows.fnExactNumbersOfSpec.vars)=true:=by kernel_rfl
theorem k5:((Rows.fnExactNumbersOfRow.stops == []))=true:=by kernel_rfl
theorem k6:((Tryz.checked.prog.stops == []))=true:=facts.k6
theorem k7:((Rows.fnExactNumbersOfRow.knobs == []))=true:=by kernel_rfl
theorem k8:((Tryz.checked.prog.stopKnobs == []))=true:=facts.k8
theorem k9:((Rows.fnExactNumbersOfRow.inPlace == Tryz.checked.prog.inPlace 5))=true:=by kernel_rfl
theorem k10:((Rows.fnExactNumbersOfRow.unfollowed == Tryz.checked.prog.unfollowed 5))=true:=by kernel_rfl
theorem k11:((Rows.fnExactNumbersOfRow.recurses == Tryz.checked.prog.recurses 5))=true:=by kernel_rfl
theorem k12:((Rows.fnExactNumbersOfRow.named == Tryz.checked.prog.varsNamed 5))=true:=by kernel_rfl
theorem k13:((Rows.fnExactNumbersOfRow.maps == (Tryz.f5.params.toList++Rows.fnExactNumbersOfSpec.plain.varTypes Tryz.checked.prog).any (Tryz.checked.prog.mapsRec ·)))=true:=by kernel_rfl
theorem k14:((Rows.fnExactNumbersOfRow.ifaces == (Tryz.f5.params.toList++Rows.fnExactNumbersOfSpec.plain.varTypes Tryz.checked.prog).any (Tryz.checked.prog.ifacesRec ·)))=true:=by kernel_rfl
theorem k15:((Rows.fnExactNumbersOfRow.mapsOut == Tryz.checked.prog.mapsAmong Tryz.f5.resultTypes.toList))=true:=by kernel_rfl
theorem k16:((Rows.fnExactNumbersOfRow.loops == (Tryz.f5.params.toList++Rows.fnExactNumbersOfSpec.plain.varTypes Tryz.checked.prog).any (Tryz.checked.prog.loopsFrom ·)))=true:=by kernel_rfl
theorem k17:((Rows.fnExactNumbersOfRow.wideKeys == (Tryz.f5.params.toList++Rows.fnExactNumbersOfSpec.plain.varTypes Tryz.checked.prog++Tryz.f5.resultTypes.toList).any (Tryz.checked.prog.wideKeysFrom ·)))=true:=by kernel_rfl
theorem k18:(Rows.fnExactNumbersOfSpec.vars.all (Tryz.checked.prog.varReadable ·))=true:=by kernel_rfl
theorem k19:(Tryz.f5.resultTypes.all (fun t=>Tryz.checked.prog.readableRec t&&decide (t<Tryz.checked.prog.types.size)))=true:=by kernel_rfl
theorem k20:((Rows.fnExactNumbersOfRow.ifacesOut == Tryz.f5.resultTypes.toList.any (Tryz.checked.prog.ifacesRec ·)))=true:=by kernel_rfl
theorem k21:((Rows.fnExactNumbersOfRow.loopsOut == Tryz.f5.resultTypes.toList.any (Tryz.checked.prog.loopsFrom ·)))=true:=by kernel_rfl
theorem k22:((Rows.fnExactNumbersOfRow.plainKeys == Tryz.checked.prog.plainKeys))=true:=facts.k22
theorem k23:(Rows.fnExactNumbersOfRow.shortTexts.isNone)=true:=by kernel_rfl
theorem k24:(Tryz.checked.prog.stopsHeard)=true:=facts.k24
theorem k25:(Tryz.checked.prog.mayEnter)=true:=facts.k25
theorem k26:((Rows.fnExactNumbersOfRow.lifted == Tryz.checked.prog.liftsFinal))=true:=facts.k26
theorem k27:((Tryz.checked.prog.make == some Rows.fnExactNumbersOfRow.make))=true:=facts.k27
theorem k28:((Rows.fnExactNumbersOfRow.kinds == (if Rows.fnExactNumbersOfRow.domain.isEmpty then [] else Tryz.f5.params.toList.map fun t=>match Tryz.checked.prog.underlying t with|some (.int k)=>some k|_=>none)))=true:=by kernel_rfl
theorem k29:((Rows.fnExactNumbersOfRow.pinned == Rows.fnExactNumbersOfRow.pinnedBy))=true:=by kernel_rfl
theorem k30:((Rows.fnExactNumbersOfRow.veiled == (Tryz.f5.params.toList++Rows.fnExactNumbersOfSpec.plain.varTypes Tryz.checked.prog++Tryz.f5.resultTypes.toList).any (Tryz.checked.prog.veiledRec ·)))=true:=by kernel_rfl
theorem k31:(Rows.fnExactNumbersOfRow.veiledFits Tryz.checked.prog Tryz.f5.params.toList (Tryz.f5.params.toList++Rows.fnExactNumbersOfSpec.plain.varTypes Tryz.checked.prog++Tryz.f5.resultTypes.toList))=true:=by kernel_rfl
theorem closed:joinedFacts Tryz.checked.prog 5 Tryz.f5 Rows.fnExactNumbersOfSpec Rows.fnExactNumbersOfRow=true:=by
 unfold joinedFacts
 exact(b2 (b2 (b2 (b2 (b2 (b2 (b2 (b2 (b2 (b2 (b2 (b2 (b2 (b2 (b2 (b2 (b2 (b2 (b2 (b2 (b2 (b2 (b2 (b2 (b2 (b2 (b2 (b2 (b2 (b2 (b2 k0 k1) k2) k3) k4) k5) k6) k7) k8) k9) k10) k11) k12) k13) k14) k15) k16) k17) k18) k19) k20) k21) k22) k23) k24) k25) k26) k27) k28) k29) k30) k31)
theorem proved:Rows.FnExactNumbersOfSaid :=
 OpenClaim.holds_of_wide 5 Tryz.f5 rfl rfl rfl rfl rfl rfl rfl ⟨rfl,rfl,rfl,rfl,rfl⟩ rfl rfl rfl rfl rfl (by as_aux_lemma=>kernel_rfl) Tryz.func5 closed
  (of_decide_eq_true (by as_aux_lemma=>kernel_rfl)) (by as_aux_lemma=>(unfold Func.isWrapper;rw[if_neg (of_decide_eq_false (by kernel_rfl))];exact⟨rfl,rfl⟩))
  (fun os started H enc _=>lifted os started H enc)
end Go.Proofs.YtkpmbocbbgocbaaGreat.fnExactNumbersOf
