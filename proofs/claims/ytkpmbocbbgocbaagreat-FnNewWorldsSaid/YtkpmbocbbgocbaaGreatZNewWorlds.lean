/- The statement FnNewWorlds: walk and row. -/
import Derived.Test.YtkpmbocbbgocbaaGreatQGb9
import Derived.Test.YtkpmbocbbgocbaaGreatQN5
import Derived.Test.YtkpmbocbbgocbaaGreatQN3
import Derived.Test.YtkpmbocbbgocbaaGreatQN4
import Derived.Test.YtkpmbocbbgocbaaGreatQW9
import Derived.Test.YtkpmbocbbgocbaaGreatQM5
set_option linter.unusedSimpArgs false
set_option linter.unusedVariables false
set_option maxHeartbeats 40000000
set_option maxRecDepth 100000
namespace Go.Proofs.YtkpmbocbbgocbaaGreat
open Go.RowKit
open Go.Proofs.YtkpmbocbbgocbaaGreat
theorem Wx(i:Int)(l:List Da):Lg (Ai i l)<=l.length:=by
 unfold Ai
 split
 .
  simp[Lg,aF,fA]
 simp[Lg,aF,fA]
theorem lU{a b:List Da}(h1:a.length<=1048576)(h2:b.length<=1048576):(Du (Hb a b)).length<=1000000000:=by
 have h:=lS (Hb a b)
 have c4:=Wx 4 a
 have c5:=Wx 5 b
 have eL:aK Gi<=1000:=of_decide_eq_true (by kernel_rfl)
 have eS:Tq Kw<=1000:=of_decide_eq_true (by kernel_rfl)
 have d2:Nl (Dw 2)<=1000:=by rw[Kk (i:=2) dC];exact of_decide_eq_true (by kernel_rfl)
 have d3:Nl (Dw 3)<=1000:=by rw[Kk (i:=3) dC];exact of_decide_eq_true (by kernel_rfl)
 have eN:aH ⟨[],[]⟩<=1000:=of_decide_eq_true (by kernel_rfl)
 have eC:Xp (List.replicate 6 0)<=1000:=of_decide_eq_true (by kernel_rfl)
 have eU:aG (List.replicate 6 true)<=1000:=of_decide_eq_true (by kernel_rfl)
 have e:aL (Hb a b)=aK Gi+Tq Kw+Nl (Dw 2)+Nl (Dw 3)+Lg (Ai 4 a)+Lg (Ai 5 b)+aH ⟨[],[]⟩+Xp (List.replicate 6 0)+aG (List.replicate 6 true):=rfl
 omega
theorem rY{a b:List Da}(h:(Fo a&&Fo b)=true){n:Nat}(hn:n<6):Ve (Hb a b) (n:Int)=true:=by
 unfold Ve
 rw[My,h]
 have:n=0\/n=1\/n=2\/n=3\/n=4\/n=5:=by omega
 rcases this with rfl|rfl|rfl|rfl|rfl|rfl <;> rfl
theorem oZ{a b:List Da}(h:(Fo a&&Fo b)=true){n:Nat}(hn:n<6):Rk (Hb a b) (n:Int)=0:=by
 unfold Rk
 rw[My,h]
 have:n=0\/n=1\/n=2\/n=3\/n=4\/n=5:=by omega
 rcases this with rfl|rfl|rfl|rfl|rfl|rfl <;> rfl
theorem lV{a b:List Da}(h:(Fo a&&Fo b)=true):Jw (Hb a b) (Hb a b)=true:=by
 unfold Jw
 rw[My,h]
 simp
end Go.Proofs.YtkpmbocbbgocbaaGreat
namespace Go.Proofs.YtkpmbocbbgocbaaGreat
open Go.RowKit Go.G8
theorem cJ(w:World)(v:Value)(h:Yg w v):Calls Tryz.prog 6 #[v] w (Cp w (.bool true)):=by
 obtain⟨bs,hbs,hbo⟩:=h;obtain⟨a9,n9,k9,rfl⟩:=hbs.shape
 have HB:Yg w (.slice a9 n9 k9):=⟨bs,hbs,hbo⟩
 clear hbs hbo
 go_enter Tryz.func6,Tryz.ntmps6
 go_wp2_with fail
 refine(vS _ a9 n9 k9).mono ?_
 rintro e8 w8⟨rfl,rfl⟩
 by_cases hbig:(4096:Int)<(n9:Int)
 .
  go_wp2_with fail
  go_ret
  exact⟨rfl,by exact Aa⟩
 go_wp2_with fail
 refine(aJ (HB.ext Aa)).mono ?_
 rintro e w1⟨_,rfl,hx,p,q,rfl,a,b,hA,hB,lA,lB⟩
 have X1:Ext w w1:=Ext.trans Aa hx
 clear hx HB
 obtain⟨a0,n0,k0,rfl⟩:=hA.shape
 obtain⟨b0,m0,j0,rfl⟩:=hB.shape
 have e1:a.length<=1048576:=by omega
 have e2:b.length<=1048576:=by omega
 as_aux_lemma =>
 go_wp2_with fail
 refine(lN (hA.ext Aa) (hB.ext Aa) e1 e2).mono ?_
 rintro e w5⟨_,rfl,hx,M',rfl,F5,o5⟩
 have X5:Ext w w5:=Ext.trans Aa hx
 have Y5:Ext w1 w5:=Ext.trans Aa hx
 clear hx
 obtain⟨M,rfl,hM,oneM⟩:=o5.rd.cells
 obtain⟨r,hr⟩:∃r,r=(Fo a&&Fo b):=⟨_,rfl⟩
 rw[<-hr];have HR:=Lib.hid hr;clear hr
 have hA:=hA.ext Y5;have hB:=hB.ext Y5;clear Y5
 as_aux_lemma =>
 go_wp2_with (first|(refine Nf rfl 106 _ _ rfl w5.heap.size 0 (.agg M.toArray) M (by rfl) (by rfl) rfl 106 [] [Value.slice none 0 0,Value.slice none 0 0,Value.slice none 0 0,Value.slice none 0 0,Value.int .i64 0,Value.int .i64 0,Value.int .i64 0,Value.slice none 0 0,Value.int .i64 0,Value.int .i64 0,Value.int .i64 0,Value.slice none 0 0,Value.bool false,Value.int .i64 0,Value.int .i64 0,Value.slice none 0 0,Value.slice none 0 0,Value.int .i64 0,Value.slice none 0 0,Value.slice none 0 0,Value.slice none 0 0,Value.int .i64 0,Value.int .i64 0,Value.slice none 0 0,Value.slice none 0 0,Value.int .i64 0,Value.int .i64 0,Value.int .i64 0,Value.int .i64 0,Value.int .i64 0,Value.int .i64 0,Value.int .i64 0,Value.int .i64 0,Value.int .i64 0,Value.int .i64 0,Value.int .i64 0,Value.int .i64 0,Value.int .i64 0,Value.slice none 0 0,Value.bool false,Value.int .i64 0,Value.int .i64 0,Value.int .i64 0,Value.int .i64 0,Value.int .i64 0,Value.int .i64 0,Value.int .i64 0,Value.int .i64 0,Value.int .i64 0,Value.int .i64 0,Value.int .i64 0,Value.int .i64 0,Value.int .i64 0,Value.slice none 0 0,Value.bool false,Value.int .i64 0,Value.int .i64 0,Value.int .i64 0,Value.int .i64 0,Value.int .i64 0,Value.int .i64 0,Value.int .i64 0,Value.slice none 0 0,Value.slice none 0 0,Value.int .i64 0,Value.int .i64 0,Value.slice none 0 0,Value.slice none 0 0,Value.int .i64 0,Value.slice none 0 0,Value.slice none 0 0,Value.slice none 0 0,Value.slice none 0 0] [] (Bk.cast (Bk.new w5 106 [Value.slice none 0 0,Value.slice none 0 0,Value.slice none 0 0,Value.slice none 0 0,Value.int .i64 0,Value.int .i64 0,Value.int .i64 0,Value.slice none 0 0,Value.int .i64 0,Value.int .i64 0,Value.int .i64 0,Value.slice none 0 0,Value.bool false,Value.int .i64 0,Value.int .i64 0,Value.slice none 0 0,Value.slice none 0 0,Value.int .i64 0,Value.slice none 0 0,Value.slice none 0 0,Value.slice none 0 0,Value.int .i64 0,Value.int .i64 0,Value.slice none 0 0,Value.slice none 0 0,Value.int .i64 0,Value.int .i64 0,Value.int .i64 0,Value.int .i64 0,Value.int .i64 0,Value.int .i64 0,Value.int .i64 0,Value.int .i64 0,Value.int .i64 0,Value.int .i64 0,Value.int .i64 0,Value.int .i64 0,Value.int .i64 0,Value.slice none 0 0,Value.bool false,Value.int .i64 0,Value.int .i64 0,Value.int .i64 0,Value.int .i64 0,Value.int .i64 0,Value.int .i64 0,Value.int .i64 0,Value.int .i64 0,Value.int .i64 0,Value.int .i64 0,Value.int .i64 0,Value.int .i64 0,Value.int .i64 0,Value.slice none 0 0,Value.bool false,Value.int .i64 0,Value.int .i64 0,Value.int .i64 0,Value.int .i64 0,Value.int .i64 0,Value.int .i64 0,Value.int .i64 0,Value.slice none 0 0,Value.slice none 0 0,Value.int .i64 0,Value.int .i64 0,Value.slice none 0 0,Value.slice none 0 0,Value.int .i64 0,Value.slice none 0 0,Value.slice none 0 0,Value.slice none 0 0,Value.slice none 0 0]) (by simp)) rfl (by rw[hM];rfl) (by rw[hM];kernel_rfl) oneM ?_;intro V6 hV6 B6;have X6:Ext w V6:=Ext.ofSet hV6 Aa (by have:=X5.size;omega);have p5:=o5.keep (Chg.ofSet hV6 (Chg.ext (Chg.refl _ _) ((Ext.refl _).alloc _)) (Or.inr (Nat.le_refl _)));have RM:V6.rangeAt w5.heap.size 0 M:=Bk.range (A:=[]) (C:=[]) (Bk.cast B6 (by simp)) rfl;have Y6:Ext w5 V6:=Ext.ofSet hV6 Aa (Nat.le_refl _);have l6:=B6.lt;clear hV6 B6 o5))
 refine(jL (hA.ext Aa) (hB.ext Aa) e1 e2).mono ?_
 rintro e w9⟨_,rfl,hx,Q',rfl,F9,o9⟩
 rw[<-HR.out]
 have Y9:Ext V6 w9:=Ext.trans Aa hx
 have X9:Ext w w9:=Ext.trans Aa hx
 have RM:=Al RM Y9;have p5:=p5.keep (Chg.ext (Chg.refl _ _) Y9);have l9:=Y9.size
 clear hx Y9 Y6
 obtain⟨Q,rfl,hQ,oneQ⟩:=o9.rd.cells
 obtain⟨d,hd⟩:∃d,d=Gd a b:=⟨_,rfl⟩
 rw[<-hd] at p5 o9
 have HD:=Lib.hid hd;clear hd hA hB
 as_aux_lemma =>
 go_upto_region 6 with(first|(refine Nf rfl 106 _ _ rfl w9.heap.size 0 (.agg Q.toArray) Q (by rfl) (by rfl) rfl 106 [] [Value.slice none 0 0,Value.slice none 0 0,Value.slice none 0 0,Value.slice none 0 0,Value.int .i64 0,Value.int .i64 0,Value.int .i64 0,Value.slice none 0 0,Value.int .i64 0,Value.int .i64 0,Value.int .i64 0,Value.slice none 0 0,Value.bool false,Value.int .i64 0,Value.int .i64 0,Value.slice none 0 0,Value.slice none 0 0,Value.int .i64 0,Value.slice none 0 0,Value.slice none 0 0,Value.slice none 0 0,Value.int .i64 0,Value.int .i64 0,Value.slice none 0 0,Value.slice none 0 0,Value.int .i64 0,Value.int .i64 0,Value.int .i64 0,Value.int .i64 0,Value.int .i64 0,Value.int .i64 0,Value.int .i64 0,Value.int .i64 0,Value.int .i64 0,Value.int .i64 0,Value.int .i64 0,Value.int .i64 0,Value.int .i64 0,Value.slice none 0 0,Value.bool false,Value.int .i64 0,Value.int .i64 0,Value.int .i64 0,Value.int .i64 0,Value.int .i64 0,Value.int .i64 0,Value.int .i64 0,Value.int .i64 0,Value.int .i64 0,Value.int .i64 0,Value.int .i64 0,Value.int .i64 0,Value.int .i64 0,Value.slice none 0 0,Value.bool false,Value.int .i64 0,Value.int .i64 0,Value.int .i64 0,Value.int .i64 0,Value.int .i64 0,Value.int .i64 0,Value.int .i64 0,Value.slice none 0 0,Value.slice none 0 0,Value.int .i64 0,Value.int .i64 0,Value.slice none 0 0,Value.slice none 0 0,Value.int .i64 0,Value.slice none 0 0,Value.slice none 0 0,Value.slice none 0 0,Value.slice none 0 0] [] (Bk.cast (Bk.new w9 106 [Value.slice none 0 0,Value.slice none 0 0,Value.slice none 0 0,Value.slice none 0 0,Value.int .i64 0,Value.int .i64 0,Value.int .i64 0,Value.slice none 0 0,Value.int .i64 0,Value.int .i64 0,Value.int .i64 0,Value.slice none 0 0,Value.bool false,Value.int .i64 0,Value.int .i64 0,Value.slice none 0 0,Value.slice none 0 0,Value.int .i64 0,Value.slice none 0 0,Value.slice none 0 0,Value.slice none 0 0,Value.int .i64 0,Value.int .i64 0,Value.slice none 0 0,Value.slice none 0 0,Value.int .i64 0,Value.int .i64 0,Value.int .i64 0,Value.int .i64 0,Value.int .i64 0,Value.int .i64 0,Value.int .i64 0,Value.int .i64 0,Value.int .i64 0,Value.int .i64 0,Value.int .i64 0,Value.int .i64 0,Value.int .i64 0,Value.slice none 0 0,Value.bool false,Value.int .i64 0,Value.int .i64 0,Value.int .i64 0,Value.int .i64 0,Value.int .i64 0,Value.int .i64 0,Value.int .i64 0,Value.int .i64 0,Value.int .i64 0,Value.int .i64 0,Value.int .i64 0,Value.int .i64 0,Value.int .i64 0,Value.slice none 0 0,Value.bool false,Value.int .i64 0,Value.int .i64 0,Value.int .i64 0,Value.int .i64 0,Value.int .i64 0,Value.int .i64 0,Value.int .i64 0,Value.slice none 0 0,Value.slice none 0 0,Value.int .i64 0,Value.int .i64 0,Value.slice none 0 0,Value.slice none 0 0,Value.int .i64 0,Value.slice none 0 0,Value.slice none 0 0,Value.slice none 0 0,Value.slice none 0 0]) (by simp)) rfl (by rw[hQ];rfl) (by rw[hQ];kernel_rfl) oneQ ?_;intro V10 hV10 B10;have X10:Ext w V10:=Ext.ofSet hV10 Aa (by have:=X9.size;omega);have p9:=o9.keep (Chg.ofSet hV10 (Chg.ext (Chg.refl _ _) ((Ext.refl _).alloc _)) (Or.inr (Nat.le_refl _)));have RQ:V10.rangeAt w9.heap.size 0 Q:=Bk.range (A:=[]) (C:=[]) (Bk.cast B10 (by simp)) rfl;have Y10:Ext w9 V10:=Ext.ofSet hV10 Aa (Nat.le_refl _);have RM:=Al RM Y10;have p5:=p5.keep (Chg.ext (Chg.refl _ _) Y10);have l10:=B10.lt;clear Y10;clear hV10 B10 o9))
 have g5:=p5.rd;have g9:=p9.rd;clear p5 p9
 have hr1:(r != r)=false:=by simp
 cases r
 .
  have hd:d=Qp:=by rw[HD.out];unfold Gd;rw[<-HR.out];rfl
  obtain⟨q0,q1,q2,q3,q4,q5,q6,t7,t8,e,l0,l1,l2,l3,l4,l5,l6,-,-,-,-,-,-,-,-,h8⟩:=g5
  rw[hd] at h8
  obtain⟨ua,uc,rfl,-,-,-⟩:=Sl.bools (show Sl 1 V10 t8 (([]:List Bool).map .bool) from h8)
  have e:=Ct e
  have c8:V10.cell? ⟨w5.heap.size,72,none⟩=some (.slice ua 0 uc):=by
   have:=RM 72 (.slice ua 0 uc) (by rw[e];simp only[<-List.append_assoc];rw[List.append_nil,List.getElem?_append_right (by simp[l0,l1,l2,l3,l4,l5,l6])];simp[l0,l1,l2,l3,l4,l5,l6])
   simpa using this
  clear e h8 hd g9 RM RQ
  have b8:w5.heap.size<V10.heap.size:=by omega
  go_wp2_with fail
  go_ret
  exact⟨rfl,by exact Aa⟩
 have hd:d=Hb a b:=by rw[HD.out];unfold Gd;rw[<-HR.out];rfl
 have hup:∀n:Nat,n<6->Ve d n=true:=fun n hn=>by rw[hd];exact rY HR.out.symm hn
 have hnow:∀n:Nat,n<6->Rk d n=0:=fun n hn=>by rw[hd];exact oZ HR.out.symm hn
 have hsame:Jw d d=true:=by rw[hd];exact lV HR.out.symm
 have hok:Ch d=true:=by rw[hd,My];exact HR.out.symm
 have hlen:(Du d).length<=1000000000:=by rw[hd];exact lU e1 e2
 have HU:=Lib.hid hup;have HN:=Lib.hid hnow;have HS:=Lib.hid hsame;have HO:=Lib.hid hok
 clear hd hup hnow hsame hok
 as_aux_lemma =>
 go_wp2_with fail
 go_loopw [9] (fun i wr=>∃k:Nat,k<=6/\i=.int .i64 k/\Ext V10 wr) (fun i _=>6 - (intOf i).toNat)
 case atStart=>exact⟨0,by omega,rfl,by exact Aa⟩
 case round =>
  obtain⟨k,hk,rfl,XR⟩:=hrel
  by_cases hlt:k<6
  .
   have RM1:=Al RM XR
   go_wp2_with (first|(refine wpList_load_mid rfl 106 _ rfl (w5.heap.size) 0 (by rfl) M _ (Al RM1 Aa) Tryz.underlying106 rfl (by rw[hM];kernel_rfl) ?_))
   refine(vN (g5.ext (Ext.trans XR Aa)) (k:Int)).mono ?_
   rintro e w11⟨rfl,hx⟩
   rw[HU.out k hlt]
   have Y11:Ext wr w11:=Ext.trans Aa hx
   clear hx
   go_wp2_with (first|(refine Hp (by rfl) 106 _ rfl (w5.heap.size) 0 (by rfl) M _ (Al RM1 Aa) Tryz.underlying106 rfl (by rw[hM];kernel_rfl) ?_))
   refine(uB (g5.ext (Ext.trans XR Aa)) (k:Int)).mono ?_
   rintro e w12⟨rfl,hx⟩
   rw[HN.out k hlt]
   have Y12:Ext wr w12:=Ext.trans Aa hx
   clear hx
   go_wp2_with fail
   go_roundw
   case rel=>exact⟨k+1,by omega,by go_num,XR.trans Aa⟩
   case measure=>simp[intOf];omega
  obtain rfl:k=6:=by omega
  have RM:=Al RM XR;have RQ:=Al RQ XR
  have g5:=g5.ext XR;have g9:=g9.ext XR
  have XX:=X10.trans XR
  clear X10 XR HU HN
  as_aux_lemma =>
  go_upto_region 15 with(fail)
  refine wp_region_held_drew (S:=fun w'=>Ext wr w') (by kernel_rfl) (by(try dsimp only);exact Aa) (fun hHeld=>?_)
  refine wpAnyH_take (i:=0) (v:=.agg M.toArray) rfl (by kernel_rfl) (by kernel_rfl) (by kernel_rfl) (fun _ _ _ h=>h) (yieldsIf_load_mid (by rfl) 106 _ rfl (w5.heap.size) 0 (by rfl) M _ (fun _ hSw=>Al RM hSw) Tryz.underlying106 rfl (by rw[hM];kernel_rfl)) (by assumption) ?_
  (try simp only[Ab,Act.put])
  refine wpAnyH_take (i:=1) (v:=.agg Q.toArray) rfl (by kernel_rfl) (by kernel_rfl) (by kernel_rfl) (fun _ _ _ h=>h) (yieldsIf_load_mid (by rfl) 106 _ rfl (w9.heap.size) 0 (by rfl) Q _ (fun _ hSw=>Al RQ hSw) Tryz.underlying106 rfl (by rw[hQ];kernel_rfl)) (by assumption) ?_
  (try simp only[Ab,Act.put])
  refine wr1 2 fun Kz hKz=>?_
  (try simp only[Ab])
  go_simp
  go_at_call 11
  refine(jQ (g5.ext Aa) (g9.ext Aa) hlen hlen).mono ?_
  rintro e y1⟨rfl,hx⟩
  have Y1:Ext wr y1:=Ext.trans Aa hx
  clear hx
  rw[HS.out]
  refine hKz.out _ _ (by(try dsimp only);exact Aa) (fun hHeld=>?_)
  clear hKz Kz
  (try simp only[Ab,Act.put])
  refine wt 3 ?_
  (try simp only[Ab,Act.put])
  refine wpAnyH_take (i:=4) (v:=.agg M.toArray) rfl (by kernel_rfl) (by kernel_rfl) (by kernel_rfl) (fun _ _ _ h=>h) (yieldsIf_load_mid (by rfl) 106 _ rfl (w5.heap.size) 0 (by rfl) M _ (fun _ hSw=>Al RM hSw) Tryz.underlying106 rfl (by rw[hM];kernel_rfl)) (by assumption) ?_
  (try simp only[Ab,Act.put])
  refine wr1 5 fun Kz hKz=>?_
  (try simp only[Ab])
  go_simp
  go_at_call 27
  refine(Oe (g5.ext Aa)).mono ?_
  rintro e y2⟨rfl,hx⟩
  have Y2:Ext wr y2:=Ext.trans Aa hx
  clear hx
  rw[HO.out]
  refine hKz.out _ _ (by(try dsimp only);exact Aa) (fun hHeld=>?_)
  clear hKz Kz
  (try simp only[Ab,Act.put])
  refine wt 6 ?_
  (try simp only[Ab,Act.put])
  refine wt 7 ?_
  (try simp only[Ab,Act.put])
  refine wpAnyH_take (i:=8) (v:=.agg M.toArray) rfl (by kernel_rfl) (by kernel_rfl) (by kernel_rfl) (fun _ _ _ h=>h) (yieldsIf_load_mid (by rfl) 106 _ rfl (w5.heap.size) 0 (by rfl) M _ (fun _ hSw=>Al RM hSw) Tryz.underlying106 rfl (by rw[hM];kernel_rfl)) (by assumption) ?_
  (try simp only[Ab,Act.put])
  refine wpAnyH_take (i:=10) (v:=.agg Q.toArray) rfl (by kernel_rfl) (by kernel_rfl) (by kernel_rfl) (fun _ _ _ h=>h) (yieldsIf_load_mid (by rfl) 106 _ rfl (w9.heap.size) 0 (by rfl) Q _ (fun _ hSw=>Al RQ hSw) Tryz.underlying106 rfl (by rw[hQ];kernel_rfl)) (by assumption) ?_
  (try simp only[Ab,Act.put])
  refine wr1 9 fun Kz hKz=>?_
  (try simp only[Ab])
  go_simp
  go_at_call 14
  refine(lT (g5.ext Aa) hlen).mono ?_
  rintro e y3⟨rfl,hx⟩
  have Y3:Ext wr y3:=Ext.trans Aa hx
  clear hx
  refine hKz.out _ _ (by(try dsimp only);exact Aa) (fun hHeld=>?_)
  clear hKz Kz
  (try simp only[Ab,Act.put])
  refine wr1 11 fun Kz hKz=>?_
  (try simp only[Ab])
  go_simp
  go_at_call 13
  refine(jR (g9.ext Aa) hlen).mono ?_
  rintro e y4⟨rfl,hx⟩
  have Y4:Ext wr y4:=Ext.trans Aa hx
  clear hx
  refine hKz.out _ _ (by(try dsimp only);exact Aa) (fun hHeld=>?_)
  clear hKz Kz
  (try simp only[Ab,Act.put])
  refine wt 12 ?_
  (try simp only[Ab,Act.put])
  refine wt 13 ?_
  (try simp only[Ab,Act.put])
  refine wt 14 ?_
  (try simp only[Ab,Act.put])
  refine wpAnyH_take (i:=15) (v:=.agg M.toArray) rfl (by kernel_rfl) (by kernel_rfl) (by kernel_rfl) (fun _ _ _ h=>h) (yieldsIf_load_mid (by rfl) 106 _ rfl (w5.heap.size) 0 (by rfl) M _ (fun _ hSw=>Al RM hSw) Tryz.underlying106 rfl (by rw[hM];kernel_rfl)) (by assumption) ?_
  (try simp only[Ab,Act.put])
  refine wpAnyH_take (i:=18) (v:=.agg Q.toArray) rfl (by kernel_rfl) (by kernel_rfl) (by kernel_rfl) (fun _ _ _ h=>h) (yieldsIf_load_mid (by rfl) 106 _ rfl (w9.heap.size) 0 (by rfl) Q _ (fun _ hSw=>Al RQ hSw) Tryz.underlying106 rfl (by rw[hQ];kernel_rfl)) (by assumption) ?_
  (try simp only[Ab,Act.put])
  refine wr1 16 fun Kz hKz=>?_
  (try simp only[Ab])
  go_simp
  go_at_call 16
  refine(jP (g5.ext Aa) hlen).mono ?_
  rintro e y5⟨c5,rfl,hx,o5⟩
  have Y5:Ext wr y5:=Ext.trans Aa hx
  clear hx
  obtain⟨a5,n5,k5,rfl,hn5,-,-,-⟩:=o5.ints.open_
  simp only[Nat.mul_one] at hn5
  subst hn5
  clear o5
  refine hKz.out _ _ (by(try dsimp only);exact Aa) (fun hHeld=>?_)
  clear hKz Kz
  (try simp only[Ab,Act.put])
  refine wt 17 ?_
  (try simp only[Ab,Act.put])
  refine wr1 19 fun Kz hKz=>?_
  (try simp only[Ab])
  go_simp
  go_at_call 15
  refine(fY (g9.ext Aa) hlen).mono ?_
  rintro e y6⟨c6,rfl,hx,o6⟩
  have Y6:Ext wr y6:=Ext.trans Aa hx
  clear hx
  obtain⟨a6,n6,k6,rfl,hn6,-,-,-⟩:=o6.ints.open_
  simp only[Nat.mul_one] at hn6
  subst hn6
  clear o6
  refine hKz.out _ _ (by(try dsimp only);exact Aa) (fun hHeld=>?_)
  clear hKz Kz
  (try simp only[Ab,Act.put])
  refine wt 20 ?_
  (try simp only[Ab,Act.put])
  refine wt 21 ?_
  (try simp only[Ab,Act.put])
  refine wt 22 ?_
  (try simp only[Ab,Act.put])
  refine wt 23 ?_
  (try simp only[Ab,Act.put])
  refine wpAnyH_done (by kernel_rfl) ?_ _
  go_wp2_with fail
  go_ret
  exact⟨rfl,XX.trans Aa⟩
end Go.Proofs.YtkpmbocbbgocbaaGreat
namespace Go.Proofs.YtkpmbocbbgocbaaGreat.fnNewWorlds
open Go.ChangeShapes Go.WideShapes Go.ChangeAt Go.RowKit Go.G8
open Go.Proofs.YtkpmbocbbgocbaaGreat.facts (b2)
theorem lifted(os:Os)(started:os.Started)(H:Type)(enc:TypeId × Value->H):ReturnsInHanded {} Tryz.checked os 6 .any (Rows.fnNewWorldsSpec.pre6 enc Tryz.prog Tryz.f6 Rows.fnNewWorldsRow.domain false) (Rows.fnNewWorldsSpec.post enc Tryz.prog Tryz.f6 false true false false):=by
 refine returnsInHanded_of_change (C:=Tryz.checked) own started (by kernel_rfl) Tryz.func6
  (ChangeSpec.witness6 (enc:=enc) (C:=Tryz.checked) false ⟨#[],#[.slice none 0 0],[]⟩ 8 (by kernel_rfl) (by kernel_rfl) (by kernel_rfl) (by kernel_rfl)) ?_
 intro W base args ds gs before hval0 hW _ _
 have hval:∀(j:Nat) t v,Tryz.f6.params[j]?=some t->args[j]?=some v->Value.okWide Tryz.prog W .any base t v:=hval0
 have hW':=hW
 obtain⟨p,q,hA0,hV,rfl,hfz,hnd⟩:=hW
 have hA:DataW.TrodAll enc Tryz.prog W 0 (fun _=>true) true Tryz.f6.params.toList args.toList ds p:=hA0
 rw[Tryz.params6] at hA hval
 obtain⟨v0,vs0,d0,ds0,p0,q0,hargs,rfl,rfl,h0,r0⟩:=trodAll_cons hA
 obtain⟨rfl,rfl,rfl⟩:=trodAll_nil r0
 obtain rfl:args=#[v0]:=by cases args;simp_all
 obtain⟨rfl,rfl⟩:=trodVars_none hV
 have k0:=h0
 have lt0:∀x ∈ p0,x.block<W.heap.size:=by obtain⟨m,hm⟩:=k0;exact DataW.trod_lt m _ _ _ hm
 obtain⟨sa0,sn0,sc0,rfl⟩:=okWide_slice Tryz.underlying115 (hval 0 115 v0 rfl rfl)
 obtain⟨m0,hm0⟩:=h0
 obtain⟨s0,e0,g0⟩:=pU hm0
 simp[Value.cells] at e0
 subst e0
 clear hA0 hval0
 refine(cJ W _ g0).mono fun e W' ⟨he,bel0⟩=>?_
 have bel:Below W.heap.size W W':=bel0
 subst he
 exact⟨_,rfl,_,_,_,[],_,[],hW',trodAll_mk1 (shut_bool Tryz.underlying4 _),(trodAll_cons_mk (Below.trod sO (by kernel_rfl) (of_decide_eq_true (by kernel_rfl)) k0 bel lt0) trodAll_mk0),rfl,bel.frame _,fun h=>by cases h⟩
theorem k0:(Rows.fnNewWorldsRow.wf (OpenSpec.ofChange Rows.fnNewWorldsSpec))=true:=by kernel_rfl
theorem k1:(laidOutB Tryz.checked.prog)=true:=facts.k1
theorem k2:(mapsRowed Tryz.checked.prog)=true:=facts.k2
theorem k3:(Tryz.f6.params.all (Tryz.checked.prog.readableRec ·))=true:=by kernel_rfl
theorem k4:(namedTie Tryz.checked.prog Rows.fnNewWorldsRow.named Rows.fnNewWorldsSpec.vars)=true:=by kernel_rfl
theorem k5:((Rows.fnNewWorldsRow.stops == []))=true:=by kernel_rfl
theorem k6:((Tryz.checked.prog.stops == []))=true:=facts.k6
theorem k7:((Rows.fnNewWorldsRow.knobs == []))=true:=by kernel_rfl
theorem k8:((Tryz.checked.prog.stopKnobs == []))=true:=facts.k8
theorem k9:((Rows.fnNewWorldsRow.inPlace == Tryz.checked.prog.inPlace 6))=true:=by kernel_rfl
theorem k10:((Rows.fnNewWorldsRow.unfollowed == Tryz.checked.prog.unfollowed 6))=true:=by kernel_rfl
theorem k11:((Rows.fnNewWorldsRow.recurses == Tryz.checked.prog.recurses 6))=true:=by kernel_rfl
theorem k12:((Rows.fnNewWorldsRow.named == Tryz.checked.prog.varsNamed 6))=true:=by kernel_rfl
theorem k13:((Rows.fnNewWorldsRow.maps == (Tryz.f6.params.toList++Rows.fnNewWorldsSpec.plain.varTypes Tryz.checked.prog).any (Tryz.checked.prog.mapsRec ·)))=true:=by kernel_rfl
theorem k14:((Rows.fnNewWorldsRow.ifaces == (Tryz.f6.params.toList++Rows.fnNewWorldsSpec.plain.varTypes Tryz.checked.prog).any (Tryz.checked.prog.ifacesRec ·)))=true:=by kernel_rfl
theorem k15:((Rows.fnNewWorldsRow.mapsOut == Tryz.checked.prog.mapsAmong Tryz.f6.resultTypes.toList))=true:=by kernel_rfl
theorem k16:((Rows.fnNewWorldsRow.loops == (Tryz.f6.params.toList++Rows.fnNewWorldsSpec.plain.varTypes Tryz.checked.prog).any (Tryz.checked.prog.loopsFrom ·)))=true:=by kernel_rfl
theorem k17:((Rows.fnNewWorldsRow.wideKeys == (Tryz.f6.params.toList++Rows.fnNewWorldsSpec.plain.varTypes Tryz.checked.prog++Tryz.f6.resultTypes.toList).any (Tryz.checked.prog.wideKeysFrom ·)))=true:=by kernel_rfl
theorem k18:(Rows.fnNewWorldsSpec.vars.all (Tryz.checked.prog.varReadable ·))=true:=by kernel_rfl
theorem k19:(Tryz.f6.resultTypes.all (fun t=>Tryz.checked.prog.readableRec t&&decide (t<Tryz.checked.prog.types.size)))=true:=by kernel_rfl
theorem k20:((Rows.fnNewWorldsRow.ifacesOut == Tryz.f6.resultTypes.toList.any (Tryz.checked.prog.ifacesRec ·)))=true:=by kernel_rfl
theorem k21:((Rows.fnNewWorldsRow.loopsOut == Tryz.f6.resultTypes.toList.any (Tryz.checked.prog.loopsFrom ·)))=true:=by kernel_rfl
theorem k22:((Rows.fnNewWorldsRow.plainKeys == Tryz.checked.prog.plainKeys))=true:=facts.k22
theorem k23:(Rows.fnNewWorldsRow.shortTexts.isNone)=true:=by kernel_rfl
theorem k24:(Tryz.checked.prog.stopsHeard)=true:=facts.k24
theorem k25:(Tryz.checked.prog.mayEnter)=true:=facts.k25
theorem k26:((Rows.fnNewWorldsRow.lifted == Tryz.checked.prog.liftsFinal))=true:=facts.k26
theorem k27:((Tryz.checked.prog.make == some Rows.fnNewWorldsRow.make))=true:=facts.k27
theorem k28:((Rows.fnNewWorldsRow.kinds == (if Rows.fnNewWorldsRow.domain.isEmpty then [] else Tryz.f6.params.toList.map fun t=>match Tryz.checked.prog.underlying t with|some (.int k)=>some k|_=>none)))=true:=by kernel_rfl
theorem k29:((Rows.fnNewWorldsRow.pinned == Rows.fnNewWorldsRow.pinnedBy))=true:=by kernel_rfl
theorem k30:((Rows.fnNewWorldsRow.veiled == (Tryz.f6.params.toList++Rows.fnNewWorldsSpec.plain.varTypes Tryz.checked.prog++Tryz.f6.resultTypes.toList).any (Tryz.checked.prog.veiledRec ·)))=true:=by kernel_rfl
theorem k31:(Rows.fnNewWorldsRow.veiledFits Tryz.checked.prog Tryz.f6.params.toList (Tryz.f6.params.toList++Rows.fnNewWorldsSpec.plain.varTypes Tryz.checked.prog++Tryz.f6.resultTypes.toList))=true:=by kernel_rfl
theorem closed:joinedFacts Tryz.checked.prog 6 Tryz.f6 Rows.fnNewWorldsSpec Rows.fnNewWorldsRow=true:=by
 unfold joinedFacts
 exact(b2 (b2 (b2 (b2 (b2 (b2 (b2 (b2 (b2 (b2 (b2 (b2 (b2 (b2 (b2 (b2 (b2 (b2 (b2 (b2 (b2 (b2 (b2 (b2 (b2 (b2 (b2 (b2 (b2 (b2 (b2 k0 k1) k2) k3) k4) k5) k6) k7) k8) k9) k10) k11) k12) k13) k14) k15) k16) k17) k18) k19) k20) k21) k22) k23) k24) k25) k26) k27) k28) k29) k30) k31)
theorem proved:Rows.FnNewWorldsSaid :=
 OpenClaim.holds_of_wide 6 Tryz.f6 rfl rfl rfl rfl rfl rfl rfl ⟨rfl,rfl,rfl,rfl,rfl⟩ rfl rfl rfl rfl rfl (by as_aux_lemma=>kernel_rfl) Tryz.func6 closed
  (of_decide_eq_true (by as_aux_lemma=>kernel_rfl)) (by as_aux_lemma=>(unfold Func.isWrapper;rw[if_neg (of_decide_eq_false (by kernel_rfl))];exact⟨rfl,rfl⟩))
  (fun os started H enc _=>lifted os started H enc)
end Go.Proofs.YtkpmbocbbgocbaaGreat.fnNewWorlds
