/- Contracts and plain laws: DN DN2 DN3 DN4. -/
import Derived.Test.YtcnioiieiebodaaGreatYa
import Derived.Deep.DeepCutAuto
import Derived.Test.YtcnioiieiebodaaGreatXa
import Derived.Test.YtcnioiieiebodaaGreatYm
import Derived.Test.YtcnioiieiebodaaGreatYi
set_option linter.unusedSimpArgs false
set_option linter.unusedVariables false
set_option maxHeartbeats 8000000
set_option maxRecDepth 100000
namespace Go.Proofs.YtcnioiieiebodaaGreat
open Go.RowKit Go.G8
theorem l3Draw_c {B:Nat} {w:World} {g:Nat} (h:Cur B w g):Calls Tryz.prog 186 #[.pointer (some ⟨g,0,none⟩)] w (Dr B w g fun v w' => ∃ d:DDisk,IsDisk w.heap.size w' v d ∧ diskOk d = true):=by
 have hc0:=h;have E0:Upd w w [g]:=Upd.refl _ _
 have hg0:=h.lt
 go_enter Tryz.func186,Tryz.ntmps186
 go_wp2_with fail
 refine (l1Below_c (cU B) 5).mono ?_
 rintro e w1 ⟨_,rfl,X1,hc1,n,rfl,pn,qn,rn⟩
 have hz1:=X1.sz
 have E1:Upd w w1 [g]:=X1.up
 have KR1:Blk w1 w.heap.size 57 #[.slice none 0 0,.slice none 0 0]:=bU X1
 clear X1
 obtain ⟨CR1,FR1,LR1⟩:=KR1.cfl
 have qn:=qn dC;clear rn
 obtain ⟨N0,rfl⟩:=Int.eq_ofNat_of_zero_le pn
 obtain ⟨N,hN⟩:∃ N:Nat,1 + (N0:Int) = (N:Int):=⟨1 + N0,by omega⟩
 go_wp2_with fail
 refine (sNewDisk_c _ _).mono ?_
 rintro e w2 ⟨_,rfl,hx2,gD0⟩
 have hz2:=hx2.size;(try simp only [szA] at hz2)
 have E2:Upd w w2 [g]:=Upd.ext (by exact updT) hx2
 have hc2:Cur B w2 g:=Cur.ext (by exact curT) hx2
 have KR2:=KR1.exv hx2
 clear hx2
 clear CR1 FR1 LR1
 obtain ⟨CR2,FR2,LR2⟩:=KR2.cfl
 have hok0:diskOk (newDisk (N:Int)) = true:=newDisk_ok oM oM
 obtain ⟨d0,hd0⟩:∃ q,q = newDisk (N:Int):=⟨_,rfl⟩
 rw [← hd0] at gD0 hok0
 clear hd0 hN
 obtain ⟨ad0,nd0,kd0,ad1,nd1,kd1,rfl⟩:=gD0.rd.shape
 have gD:=IsDisk.mono9 (B':=w.heap.size) gD0 zT
 clear gD0
 go_wp2_with fail
 refine (l1Below_c (cU B) 9).mono ?_
 rintro e w3 ⟨_,rfl,X3,hc3,m,rfl,pm,qm,rm⟩
 have P3:Kp w.heap.size boxTs w2 w3:=Kp.upd kpT X3 oM
 have gD:=gD.kp P3
 clear P3
 have hz3:=X3.sz
 have E3:Upd w w3 [g]:=X3.up
 have KR3:=KR2.upv X3
 have KD3:Blk w3 w2.heap.size 57 #[.slice ad0 nd0 kd0,.slice ad1 nd1 kd1]:=bU X3
 clear X3
 clear CR2 FR2 LR2
 obtain ⟨CR3,FR3,LR3⟩:=KR3.cfl
 obtain ⟨CD3,FD3,LD3⟩:=KD3.cfl
 have qm:=qm dC;clear rm
 obtain ⟨N2,rfl⟩:=Int.eq_ofNat_of_zero_le pm
 go_wp2_with fail
 go_loopw [4] (fun kk wr => ∃ (k:Nat) (dd:DDisk) (ad0:Option Addr) (nd0 kd0:Nat) (ad1:Option Addr) (nd1 kd1:Nat),k ≤ 9 ∧ kk = .int .i64 k ∧ diskOk dd = true ∧ Upd w wr [g] ∧ Cur B wr g ∧ Blk wr w.heap.size 57 #[.slice none 0 0,.slice none 0 0] ∧ Blk wr w2.heap.size 57 #[.slice ad0 nd0 kd0,.slice ad1 nd1 kd1] ∧ IsDisk w.heap.size wr (.agg #[.slice ad0 nd0 kd0,.slice ad1 nd1 kd1]) dd) (fun kk _ => (intOf kk).toNat)
 case atStart => exact ⟨N2,d0,ad0,nd0,kd0,ad1,nd1,kd1,by omega,rfl,hok0,E3,hc3,KR3,KD3,gD⟩
 case round =>
  obtain ⟨k,dd,ae0,ne0,ke0,ae1,ne1,ke1,hk,rfl,hok,E4,hc4,KR4,KD4,gE⟩:=hrel
  obtain ⟨w4,hw⟩:∃ w4,w4 = wr:=⟨_,rfl⟩
  subst hw
  have hz4:=E4.size
  clear CR3 FR3 LR3 CD3 FD3 LD3
  obtain ⟨CR4,FR4,LR4⟩:=KR4.cfl
  obtain ⟨CD4,FD4,LD4⟩:=KD4.cfl
  have hl9:=KD4.lt
  by_cases hlt:0 < k
  ·
   have hlt2:(0:Int) < (k:Int):=by omega
   go_wp2_with fail
   go_cut [] (fun wx => ∃ de:DDisk,∃ ag0:Option Addr,∃ ng0:Nat,∃ kg0:Nat,∃ ag1:Option Addr,∃ ng1:Nat,∃ kg1:Nat,diskOk de = true ∧ IsDisk w.heap.size wx (.agg #[.slice ag0 ng0 kg0,.slice ag1 ng1 kg1]) de ∧ Blk wx w2.heap.size 57 #[.slice ag0 ng0 kg0,.slice ag1 ng1 kg1] ∧ Upd w wx [g] ∧ Cur B wx g ∧ Blk wx w.heap.size 57 #[.slice none 0 0,.slice none 0 0])
   case first =>
    refine wh (S:=fun w' => Upd w w' [g] ∧ Cur B w' g) fun hHeld => ?_
    refine wt 1 ?_
    (try simp only [redA,Act.put])
    refine wt 2 ?_
    (try simp only [redA,Act.put])
    refine wt 6 ?_
    (try simp only [redA,Act.put])
    refine wr2 0 3 (fun Kz hKz => ?_) fun Kz hKz => ?_
    ·
     (try simp only [redA])
     go_simp
     refine hKz.o2 fun hHeld => ?_
     clear hKz Kz
     (try simp only [redA,Act.put])
     refine wr1 3 fun Kz hKz => ?_
     (try simp only [redA])
     go_simp
     refine hKz.o2 fun hHeld => ?_
     clear hKz Kz
     (try simp only [redA,Act.put])
     refine wr1 4 fun Kz hKz => ?_
     (try simp only [redA])
     go_simp
     refine hKz.o2 fun hHeld => ?_
     clear hKz Kz
     (try simp only [redA,Act.put])
     refine wr1 5 fun Kz hKz => ?_
     (try simp only [redA])
     go_simp
     go_at_call 30
     refine (l1Below_c (cU B) _).mono ?_
     rintro e w5 ⟨_,rfl,X5,hc5,x,rfl,px,qx,rx⟩
     have P5:Kp w.heap.size boxTs w4 w5:=Kp.upd kpT X5 oM
     have gE:=gE.kp P5
     clear P5
     have hz5:=X5.sz
     have E5:Upd w w5 [g]:=X5.up
     have KR5:Blk w5 w.heap.size 57 #[.slice none 0 0,.slice none 0 0]:=bU X5
     have KD5:Blk w5 w2.heap.size 57 #[.slice ae0 ne0 ke0,.slice ae1 ne1 ke1]:=bU X5
     clear X5
     clear CR4 FR4 LR4 CD4 FD4 LD4
     obtain ⟨CR5,FR5,LR5⟩:=KR5.cfl
     obtain ⟨CD5,FD5,LD5⟩:=KD5.cfl
     refine hKz.o2 fun hHeld => ?_
     clear hKz Kz
     (try simp only [redA,Act.put])
     refine wr1 7 fun Kz hKz => ?_
     (try simp only [redA])
     go_simp
     go_at_call 185
     refine (l1DrawRow_c (cU B)).mono ?_
     rintro e w6 ⟨_,rfl,X6,hc6,rw,Or,hrw⟩
     have P6:Kp w.heap.size boxTs w5 w6:=Kp.upd kpT X6 oM
     have gE:=gE.kp P6
     clear P6
     have hz6:=X6.sz
     have E6:Upd w w6 [g]:=X6.up
     have KR6:=KR5.upv X6
     have KD6:=KD5.upv X6
     clear X6
     clear CR5 FR5 LR5 CD5 FD5 LD5
     obtain ⟨CR6,FR6,LR6⟩:=KR6.cfl
     obtain ⟨CD6,FD6,LD6⟩:=KD6.cfl
     obtain ⟨aq,nq,kq,rfl⟩:=Or.shape
     have Or9:OwnI w.heap.size 2 1 _ (.slice aq nq kq) rw:=OwnI.mono Or zT
     clear Or
     refine hKz.o2 fun hHeld => ?_
     clear hKz Kz
     (try simp only [redA,Act.put])
     refine wr1 8 fun Kz hKz => ?_
     (try simp only [redA])
     go_simp
     go_at_call 210
     refine (sWrote_k (gE.rd.ext (by exact extT)) (Or9.ints.ext (by exact extT)) _).mono ?_
     rintro e w7 ⟨_,rfl,hx7,vd,rfl,FD,gd⟩
     have P7:Kp w.heap.size boxTs w6 w7:=Kp.ext kpT hx7
     have gE:=gE.kp P7
     clear P7
     have hz7:=hx7.size;(try simp only [szA] at hz7)
     have E7:Upd w w7 [g]:=Upd.ext (by exact updT) hx7
     have hc7:Cur B w7 g:=Cur.ext (by exact curT) hx7
     have KR7:=KR6.exv hx7
     have KD7:=KD6.exv hx7
     clear hx7
     clear CR6 FR6 LR6 CD6 FD6 LD6
     obtain ⟨CR7,FR7,LR7⟩:=KR7.cfl
     obtain ⟨CD7,FD7,LD7⟩:=KD7.cfl
     obtain ⟨af0,nf0,kf0,af1,nf1,kf1,rfl⟩:=gd.rd.shape
     refine hKz.o2 fun hHeld => ?_
     clear hKz Kz
     (try simp only [redA,Act.put])
     refine wt 9 ?_
     (try simp only [redA,Act.put])
     refine wt 10 ?_
     (try simp only [redA,Act.put])
     refine wt 11 ?_
     (try simp only [redA,Act.put])
     refine wr1 12 fun Kz hKz => ?_
     (try simp only [redA])
     go_simp
     refine hKz.o2 fun hHeld => ?_
     clear hKz Kz
     (try simp only [redA,Act.put])
     refine wpAnyH_done (by kernel_rfl) ?_ _
     have gF:=IsDisk.mono9 (B':=w.heap.size) gd.is zT
     go_wp2_with fail
     go_meet
     case rel => exact ⟨_,_,_,_,_,_,_,(wrD_keep hok).1,gF.kp kpT,bC,(by exact updT),(by exact curT),bC⟩
    (try simp only [redA])
    go_simp
    refine hKz.o2 fun hHeld => ?_
    clear hKz Kz
    (try simp only [redA,Act.put])
    refine wr2 0 4 (fun Kz hKz => ?_) fun Kz hKz => ?_
    ·
     (try simp only [redA])
     go_simp
     refine hKz.o2 fun hHeld => ?_
     clear hKz Kz
     (try simp only [redA,Act.put])
     refine wr1 4 fun Kz hKz => ?_
     (try simp only [redA])
     go_simp
     refine hKz.o2 fun hHeld => ?_
     clear hKz Kz
     (try simp only [redA,Act.put])
     refine wr1 5 fun Kz hKz => ?_
     (try simp only [redA])
     go_simp
     go_at_call 30
     refine (l1Below_c (cU B) _).mono ?_
     rintro e w5 ⟨_,rfl,X5,hc5,x,rfl,px,qx,rx⟩
     have P5:Kp w.heap.size boxTs w4 w5:=Kp.upd kpT X5 oM
     have gE:=gE.kp P5
     clear P5
     have hz5:=X5.sz
     have E5:Upd w w5 [g]:=X5.up
     have KR5:Blk w5 w.heap.size 57 #[.slice none 0 0,.slice none 0 0]:=bU X5
     have KD5:Blk w5 w2.heap.size 57 #[.slice ae0 ne0 ke0,.slice ae1 ne1 ke1]:=bU X5
     clear X5
     clear CR4 FR4 LR4 CD4 FD4 LD4
     obtain ⟨CR5,FR5,LR5⟩:=KR5.cfl
     obtain ⟨CD5,FD5,LD5⟩:=KD5.cfl
     refine hKz.o2 fun hHeld => ?_
     clear hKz Kz
     (try simp only [redA,Act.put])
     refine wr1 7 fun Kz hKz => ?_
     (try simp only [redA])
     go_simp
     go_at_call 185
     refine (l1DrawRow_c (cU B)).mono ?_
     rintro e w6 ⟨_,rfl,X6,hc6,rw,Or,hrw⟩
     have P6:Kp w.heap.size boxTs w5 w6:=Kp.upd kpT X6 oM
     have gE:=gE.kp P6
     clear P6
     have hz6:=X6.sz
     have E6:Upd w w6 [g]:=X6.up
     have KR6:=KR5.upv X6
     have KD6:=KD5.upv X6
     clear X6
     clear CR5 FR5 LR5 CD5 FD5 LD5
     obtain ⟨CR6,FR6,LR6⟩:=KR6.cfl
     obtain ⟨CD6,FD6,LD6⟩:=KD6.cfl
     obtain ⟨aq,nq,kq,rfl⟩:=Or.shape
     have Or9:OwnI w.heap.size 2 1 _ (.slice aq nq kq) rw:=OwnI.mono Or zT
     clear Or
     refine hKz.o2 fun hHeld => ?_
     clear hKz Kz
     (try simp only [redA,Act.put])
     refine wr1 8 fun Kz hKz => ?_
     (try simp only [redA])
     go_simp
     go_at_call 210
     refine (sWrote_k (gE.rd.ext (by exact extT)) (Or9.ints.ext (by exact extT)) _).mono ?_
     rintro e w7 ⟨_,rfl,hx7,vd,rfl,FD,gd⟩
     have P7:Kp w.heap.size boxTs w6 w7:=Kp.ext kpT hx7
     have gE:=gE.kp P7
     clear P7
     have hz7:=hx7.size;(try simp only [szA] at hz7)
     have E7:Upd w w7 [g]:=Upd.ext (by exact updT) hx7
     have hc7:Cur B w7 g:=Cur.ext (by exact curT) hx7
     have KR7:=KR6.exv hx7
     have KD7:=KD6.exv hx7
     clear hx7
     clear CR6 FR6 LR6 CD6 FD6 LD6
     obtain ⟨CR7,FR7,LR7⟩:=KR7.cfl
     obtain ⟨CD7,FD7,LD7⟩:=KD7.cfl
     obtain ⟨af0,nf0,kf0,af1,nf1,kf1,rfl⟩:=gd.rd.shape
     refine hKz.o2 fun hHeld => ?_
     clear hKz Kz
     (try simp only [redA,Act.put])
     refine wt 9 ?_
     (try simp only [redA,Act.put])
     refine wt 10 ?_
     (try simp only [redA,Act.put])
     refine wt 11 ?_
     (try simp only [redA,Act.put])
     refine wr1 12 fun Kz hKz => ?_
     (try simp only [redA])
     go_simp
     refine hKz.o2 fun hHeld => ?_
     clear hKz Kz
     (try simp only [redA,Act.put])
     refine wpAnyH_done (by kernel_rfl) ?_ _
     have gF:=IsDisk.mono9 (B':=w.heap.size) gd.is zT
     go_wp2_with fail
     go_meet
     case rel => exact ⟨_,_,_,_,_,_,_,(wrD_keep hok).1,gF.kp kpT,bC,(by exact updT),(by exact curT),bC⟩
    (try simp only [redA])
    go_simp
    refine hKz.o2 fun hHeld => ?_
    clear hKz Kz
    (try simp only [redA,Act.put])
    refine wr2 0 5 (fun Kz hKz => ?_) fun Kz hKz => ?_
    ·
     (try simp only [redA])
     go_simp
     refine hKz.o2 fun hHeld => ?_
     clear hKz Kz
     (try simp only [redA,Act.put])
     refine wr1 5 fun Kz hKz => ?_
     (try simp only [redA])
     go_simp
     go_at_call 30
     refine (l1Below_c (cU B) _).mono ?_
     rintro e w5 ⟨_,rfl,X5,hc5,x,rfl,px,qx,rx⟩
     have P5:Kp w.heap.size boxTs w4 w5:=Kp.upd kpT X5 oM
     have gE:=gE.kp P5
     clear P5
     have hz5:=X5.sz
     have E5:Upd w w5 [g]:=X5.up
     have KR5:Blk w5 w.heap.size 57 #[.slice none 0 0,.slice none 0 0]:=bU X5
     have KD5:Blk w5 w2.heap.size 57 #[.slice ae0 ne0 ke0,.slice ae1 ne1 ke1]:=bU X5
     clear X5
     clear CR4 FR4 LR4 CD4 FD4 LD4
     obtain ⟨CR5,FR5,LR5⟩:=KR5.cfl
     obtain ⟨CD5,FD5,LD5⟩:=KD5.cfl
     refine hKz.o2 fun hHeld => ?_
     clear hKz Kz
     (try simp only [redA,Act.put])
     refine wr1 7 fun Kz hKz => ?_
     (try simp only [redA])
     go_simp
     go_at_call 185
     refine (l1DrawRow_c (cU B)).mono ?_
     rintro e w6 ⟨_,rfl,X6,hc6,rw,Or,hrw⟩
     have P6:Kp w.heap.size boxTs w5 w6:=Kp.upd kpT X6 oM
     have gE:=gE.kp P6
     clear P6
     have hz6:=X6.sz
     have E6:Upd w w6 [g]:=X6.up
     have KR6:=KR5.upv X6
     have KD6:=KD5.upv X6
     clear X6
     clear CR5 FR5 LR5 CD5 FD5 LD5
     obtain ⟨CR6,FR6,LR6⟩:=KR6.cfl
     obtain ⟨CD6,FD6,LD6⟩:=KD6.cfl
     obtain ⟨aq,nq,kq,rfl⟩:=Or.shape
     have Or9:OwnI w.heap.size 2 1 _ (.slice aq nq kq) rw:=OwnI.mono Or zT
     clear Or
     refine hKz.o2 fun hHeld => ?_
     clear hKz Kz
     (try simp only [redA,Act.put])
     refine wr1 8 fun Kz hKz => ?_
     (try simp only [redA])
     go_simp
     go_at_call 210
     refine (sWrote_k (gE.rd.ext (by exact extT)) (Or9.ints.ext (by exact extT)) _).mono ?_
     rintro e w7 ⟨_,rfl,hx7,vd,rfl,FD,gd⟩
     have P7:Kp w.heap.size boxTs w6 w7:=Kp.ext kpT hx7
     have gE:=gE.kp P7
     clear P7
     have hz7:=hx7.size;(try simp only [szA] at hz7)
     have E7:Upd w w7 [g]:=Upd.ext (by exact updT) hx7
     have hc7:Cur B w7 g:=Cur.ext (by exact curT) hx7
     have KR7:=KR6.exv hx7
     have KD7:=KD6.exv hx7
     clear hx7
     clear CR6 FR6 LR6 CD6 FD6 LD6
     obtain ⟨CR7,FR7,LR7⟩:=KR7.cfl
     obtain ⟨CD7,FD7,LD7⟩:=KD7.cfl
     obtain ⟨af0,nf0,kf0,af1,nf1,kf1,rfl⟩:=gd.rd.shape
     refine hKz.o2 fun hHeld => ?_
     clear hKz Kz
     (try simp only [redA,Act.put])
     refine wt 9 ?_
     (try simp only [redA,Act.put])
     refine wt 10 ?_
     (try simp only [redA,Act.put])
     refine wt 11 ?_
     (try simp only [redA,Act.put])
     refine wr1 12 fun Kz hKz => ?_
     (try simp only [redA])
     go_simp
     refine hKz.o2 fun hHeld => ?_
     clear hKz Kz
     (try simp only [redA,Act.put])
     refine wpAnyH_done (by kernel_rfl) ?_ _
     have gF:=IsDisk.mono9 (B':=w.heap.size) gd.is zT
     go_wp2_with fail
     go_meet
     case rel => exact ⟨_,_,_,_,_,_,_,(wrD_keep hok).1,gF.kp kpT,bC,(by exact updT),(by exact curT),bC⟩
    (try simp only [redA])
    go_simp
    go_at_call 30
    refine (l1Below_c (cU B) _).mono ?_
    rintro e w5 ⟨_,rfl,X5,hc5,x,rfl,px,qx,rx⟩
    have P5:Kp w.heap.size boxTs w4 w5:=Kp.upd kpT X5 oM
    have gE:=gE.kp P5
    clear P5
    have hz5:=X5.sz
    have E5:Upd w w5 [g]:=X5.up
    have KR5:Blk w5 w.heap.size 57 #[.slice none 0 0,.slice none 0 0]:=bU X5
    have KD5:Blk w5 w2.heap.size 57 #[.slice ae0 ne0 ke0,.slice ae1 ne1 ke1]:=bU X5
    clear X5
    clear CR4 FR4 LR4 CD4 FD4 LD4
    obtain ⟨CR5,FR5,LR5⟩:=KR5.cfl
    obtain ⟨CD5,FD5,LD5⟩:=KD5.cfl
    refine hKz.o2 fun hHeld => ?_
    clear hKz Kz
    (try simp only [redA,Act.put])
    refine wr2 0 7 (fun Kz hKz => ?_) fun Kz hKz => ?_
    ·
     (try simp only [redA])
     go_simp
     refine hKz.o2 fun hHeld => ?_
     clear hKz Kz
     (try simp only [redA,Act.put])
     refine wr1 7 fun Kz hKz => ?_
     (try simp only [redA])
     go_simp
     go_at_call 185
     refine (l1DrawRow_c (cU B)).mono ?_
     rintro e w6 ⟨_,rfl,X6,hc6,rw,Or,hrw⟩
     have P6:Kp w.heap.size boxTs w5 w6:=Kp.upd kpT X6 oM
     have gE:=gE.kp P6
     clear P6
     have hz6:=X6.sz
     have E6:Upd w w6 [g]:=X6.up
     have KR6:=KR5.upv X6
     have KD6:=KD5.upv X6
     clear X6
     clear CR5 FR5 LR5 CD5 FD5 LD5
     obtain ⟨CR6,FR6,LR6⟩:=KR6.cfl
     obtain ⟨CD6,FD6,LD6⟩:=KD6.cfl
     obtain ⟨aq,nq,kq,rfl⟩:=Or.shape
     have Or9:OwnI w.heap.size 2 1 _ (.slice aq nq kq) rw:=OwnI.mono Or zT
     clear Or
     refine hKz.o2 fun hHeld => ?_
     clear hKz Kz
     (try simp only [redA,Act.put])
     refine wr1 8 fun Kz hKz => ?_
     (try simp only [redA])
     go_simp
     go_at_call 210
     refine (sWrote_k (gE.rd.ext (by exact extT)) (Or9.ints.ext (by exact extT)) _).mono ?_
     rintro e w7 ⟨_,rfl,hx7,vd,rfl,FD,gd⟩
     have P7:Kp w.heap.size boxTs w6 w7:=Kp.ext kpT hx7
     have gE:=gE.kp P7
     clear P7
     have hz7:=hx7.size;(try simp only [szA] at hz7)
     have E7:Upd w w7 [g]:=Upd.ext (by exact updT) hx7
     have hc7:Cur B w7 g:=Cur.ext (by exact curT) hx7
     have KR7:=KR6.exv hx7
     have KD7:=KD6.exv hx7
     clear hx7
     clear CR6 FR6 LR6 CD6 FD6 LD6
     obtain ⟨CR7,FR7,LR7⟩:=KR7.cfl
     obtain ⟨CD7,FD7,LD7⟩:=KD7.cfl
     obtain ⟨af0,nf0,kf0,af1,nf1,kf1,rfl⟩:=gd.rd.shape
     refine hKz.o2 fun hHeld => ?_
     clear hKz Kz
     (try simp only [redA,Act.put])
     refine wt 9 ?_
     (try simp only [redA,Act.put])
     refine wt 10 ?_
     (try simp only [redA,Act.put])
     refine wt 11 ?_
     (try simp only [redA,Act.put])
     refine wr1 12 fun Kz hKz => ?_
     (try simp only [redA])
     go_simp
     refine hKz.o2 fun hHeld => ?_
     clear hKz Kz
     (try simp only [redA,Act.put])
     refine wpAnyH_done (by kernel_rfl) ?_ _
     have gF:=IsDisk.mono9 (B':=w.heap.size) gd.is zT
     go_wp2_with fail
     go_meet
     case rel => exact ⟨_,_,_,_,_,_,_,(wrD_keep hok).1,gF.kp kpT,bC,(by exact updT),(by exact curT),bC⟩
    (try simp only [redA])
    go_simp
    go_at_call 185
    refine (l1DrawRow_c (cU B)).mono ?_
    rintro e w6 ⟨_,rfl,X6,hc6,rw,Or,hrw⟩
    have P6:Kp w.heap.size boxTs w5 w6:=Kp.upd kpT X6 oM
    have gE:=gE.kp P6
    clear P6
    have hz6:=X6.sz
    have E6:Upd w w6 [g]:=X6.up
    have KR6:=KR5.upv X6
    have KD6:=KD5.upv X6
    clear X6
    clear CR5 FR5 LR5 CD5 FD5 LD5
    obtain ⟨CR6,FR6,LR6⟩:=KR6.cfl
    obtain ⟨CD6,FD6,LD6⟩:=KD6.cfl
    obtain ⟨aq,nq,kq,rfl⟩:=Or.shape
    have Or9:OwnI w.heap.size 2 1 _ (.slice aq nq kq) rw:=OwnI.mono Or zT
    clear Or
    refine hKz.o2 fun hHeld => ?_
    clear hKz Kz
    (try simp only [redA,Act.put])
    refine wr1 0 fun Kz hKz => ?_
    (try simp only [redA])
    go_simp
    refine hKz.o2 fun hHeld => ?_
    clear hKz Kz
    (try simp only [redA,Act.put])
    refine wr1 8 fun Kz hKz => ?_
    (try simp only [redA])
    go_simp
    go_at_call 210
    refine (sWrote_k (gE.rd.ext (by exact extT)) (Or9.ints.ext (by exact extT)) _).mono ?_
    rintro e w7 ⟨_,rfl,hx7,vd,rfl,FD,gd⟩
    have P7:Kp w.heap.size boxTs w6 w7:=Kp.ext kpT hx7
    have gE:=gE.kp P7
    clear P7
    have hz7:=hx7.size;(try simp only [szA] at hz7)
    have E7:Upd w w7 [g]:=Upd.ext (by exact updT) hx7
    have hc7:Cur B w7 g:=Cur.ext (by exact curT) hx7
    have KR7:=KR6.exv hx7
    have KD7:=KD6.exv hx7
    clear hx7
    clear CR6 FR6 LR6 CD6 FD6 LD6
    obtain ⟨CR7,FR7,LR7⟩:=KR7.cfl
    obtain ⟨CD7,FD7,LD7⟩:=KD7.cfl
    obtain ⟨af0,nf0,kf0,af1,nf1,kf1,rfl⟩:=gd.rd.shape
    refine hKz.o2 fun hHeld => ?_
    clear hKz Kz
    (try simp only [redA,Act.put])
    refine wt 9 ?_
    (try simp only [redA,Act.put])
    refine wt 10 ?_
    (try simp only [redA,Act.put])
    refine wt 11 ?_
    (try simp only [redA,Act.put])
    refine wr1 12 fun Kz hKz => ?_
    (try simp only [redA])
    go_simp
    refine hKz.o2 fun hHeld => ?_
    clear hKz Kz
    (try simp only [redA,Act.put])
    refine wpAnyH_done (by kernel_rfl) ?_ _
    have gF:=IsDisk.mono9 (B':=w.heap.size) gd.is zT
    go_wp2_with fail
    go_meet
    case rel => exact ⟨_,_,_,_,_,_,_,(wrD_keep hok).1,gF.kp kpT,bC,(by exact updT),(by exact curT),bC⟩
   revert wc;intro w5 hcut
   obtain ⟨de,ag0,ng0,kg0,ag1,ng1,kg1,hde,gG,KD5,E5,hc5,KR5⟩:=hcut
   have hz5:=E5.size
   clear CR4 FR4 LR4 CD4 FD4 LD4
   obtain ⟨CR5,FR5,LR5⟩:=KR5.cfl
   obtain ⟨CD5,FD5,LD5⟩:=KD5.cfl
   go_wp2_with fail
   refine (l1Once_c (cU B) 3).mono ?_
   rintro e w6 ⟨_,rfl,X6,hc6,bb,rfl⟩
   have P6:Kp w.heap.size boxTs w5 w6:=Kp.upd kpT X6 oM
   have gG:=gG.kp P6
   clear P6
   have hz6:=X6.sz
   have E6:Upd w w6 [g]:=X6.up
   have KR6:Blk w6 w.heap.size 57 #[.slice none 0 0,.slice none 0 0]:=bU X6
   have KD6:Blk w6 w2.heap.size 57 #[.slice ag0 ng0 kg0,.slice ag1 ng1 kg1]:=bU X6
   clear X6
   clear CR5 FR5 LR5 CD5 FD5 LD5
   obtain ⟨CR6,FR6,LR6⟩:=KR6.cfl
   obtain ⟨CD6,FD6,LD6⟩:=KD6.cfl
   cases bb
   rotate_left
   ·
    go_wp2_with fail
    refine (sSynced_c _ _ _ _ _ (RdDisk.get (gG.rd.ext (by exact extT))).1 (RdDisk.get (gG.rd.ext (by exact extT))).2).mono ?_
    rintro e w7 ⟨_,rfl,hx7,gY⟩
    have P7:Kp w.heap.size boxTs w6 w7:=Kp.ext kpT hx7
    have gG:=gG.kp P7
    clear P7
    have hz7:=hx7.size;(try simp only [szA] at hz7)
    have E7:Upd w w7 [g]:=Upd.ext (by exact updT) hx7
    have hc7:Cur B w7 g:=Cur.ext (by exact curT) hx7
    have KR7:=KR6.exv hx7
    have KD7:=KD6.exv hx7
    clear hx7
    clear CR6 FR6 LR6 CD6 FD6 LD6
    obtain ⟨CR7,FR7,LR7⟩:=KR7.cfl
    obtain ⟨CD7,FD7,LD7⟩:=KD7.cfl
    obtain ⟨az0,nz0,kz0,az1,nz1,kz1,rfl⟩:=gY.rd.shape
    have gZ:=IsDisk.mono9 (B':=w.heap.size) gY zT
    clear gY
    go_wp2_with fail
    go_roundw
    case rel => exact ⟨k - 1,_,az0,nz0,kz0,az1,nz1,kz1,by omega,by (try simp only [Value.int.injEq,true_and]);first | omega | (congr 1;omega),(fallenDisk_ok hde).1,by exact updT,by exact curT,bC,bC,gZ.kp kpT⟩
    case measure => simp [intOf];omega
   go_wp2_with fail
   go_roundw
   case rel => exact ⟨k - 1,de,ag0,ng0,kg0,ag1,ng1,kg1,by omega,by (try simp only [Value.int.injEq,true_and]);first | omega | (congr 1;omega),hde,by exact updT,by exact curT,bC,bC,gG.kp kpT⟩
   case measure => simp [intOf];omega
  obtain rfl:k = 0:=by omega
  go_wp2_with fail
  refine bodyPost_ret (by simp [results,Tryz.results186,go_sem,CR4,FR4,LR4,CD4,FD4,LD4];try rfl) rfl ?_
  exact ⟨_,rfl,by exact updT,by exact curT,dd,gE.kp kpT,hok⟩
end Go.Proofs.YtcnioiieiebodaaGreat
namespace Go.G8
open Go.RowKit
open Go.Proofs.YtcnioiieiebodaaGreat
theorem Nest.tail {n:Nat} {w:World} {a:Option Addr} {len cap:Nat} {rows:List NRow} (h:Nest n w (.slice a len cap) rows) (h1:1 ≤ len):Nest n w (Go.sliced a 1 len cap (n + 1)) (rows.drop 1):=by
 have hlen:len = rows.length:=by
  obtain ⟨a',c',e,_⟩:=h.open_
  injection e
 obtain ⟨hw,ss,hl,hs,hi⟩:=h
 have hsl:=Sl.sliced hs (l:=1) (m:=len) h1 (Nat.le_refl _)
 cases rows with
 | nil => simp at hlen;omega
 | cons r rows =>
  cases ss with
  | nil => simp at hl
  | cons s ss =>
   have e:((ncells (r :: rows) (s :: ss)).take (len * (n + 1))).drop (1 * (n + 1)) = ncells rows ss:=by
    rw [List.take_of_length_le (by rw [ncells_len hw hl,hlen];exact Nat.le_refl _)]
    have e2:ncells (r :: rows) (s :: ss) = ncell (r,s) ++ ncells rows ss:=rfl
    have hc:(ncell (r,s)).length = n + 1:=ncell_len (ss:=s :: ss) hw (r,s) (by rw [List.zip_cons_cons];exact List.mem_cons_self ..)
    rw [e2,Nat.one_mul]
    exact List.drop_left' hc
   rw [e] at hsl
   exact ⟨fun x hx => hw x (List.mem_cons_of_mem _ hx),ss,by simpa using hl,hsl,fun i t x h2 h3 => hi (i + 1) t x (by simpa using h2) (by simpa using h3)⟩
theorem OwnNs.makeK (w:World) (e e1:TypeId) (n:Nat) (hn:n ≤ 1000):OwnNs w.heap.size e e1 0 (w.alloc (.cells (madeCells #[.slice none 0 0] n) e)) (.slice (some ⟨w.heap.size,0,none⟩) n n) (nestInt64S (List.replicate n [])) (List.replicate n (.slice none 0 0)):=by
 have hrep:∀ (i:Nat) (s:Value),(List.replicate n (Value.slice none 0 0))[i]? = some s → s = .slice none 0 0:=by
  intro i s h
  exact List.eq_of_mem_replicate (List.mem_of_getElem? h)
 have hft:∀ k,k ∈ feet [Value.slice none 0 0] → False:=by simp [feet,Value.ownBlock]
 refine ⟨fun r h => by simp [nestInt64S] at h;simp [h],by simp [nestInt64S],Own.of_blk (cap:=n) (Blk.new _ _ _) (Nat.le_refl _) (by simp [size_madeCells]) (by rw [ncells_nil];simp) (Nat.le_refl _) (by unfold maxLen;omega) ?_,⟨fun i s r h1 h2 => ?_,fun i j s t k _ h1 h2 h3 => ?_,fun i s k h1 h2 h3 => ?_⟩⟩
 ·
  rw [ncells_nil]
  intro j hj
  have hj':j < n:=by omega
  simp [madeCells,hj',Nat.mod_one]
 ·
  rw [hrep i s h1]
  have:r.2 = []:=by
   have:=List.mem_of_getElem? h2
   simp [nestInt64S] at this
   simp [this]
  rw [this]
  exact OwnI.nil _ _ _ _
 ·
  rw [hrep i s h1] at h3;exact (hft k h3).elim
 rw [hrep i s h1] at h2;exact (hft k h2).elim
theorem nestW_rep (n:Nat):nestWrite (List.replicate n ⟨0,[]⟩) = List.replicate n ([0],[]):=by simp [nestWrite]
theorem ncells_rep (n:Nat):∀ j,j < n * 2 → (ncells (List.replicate n (([0],[]):NRow)) (List.replicate n (.slice none 0 0)))[j]? = some (if j % 2 = 0 then Value.int .i64 0 else .slice none 0 0):=by
 induction n with
 | zero => intro j hj;omega
 | succ n ih =>
  intro j hj
  have e:ncells (List.replicate (n + 1) (([0],[]):NRow)) (List.replicate (n + 1) (.slice none 0 0)) = .int .i64 0 :: .slice none 0 0 :: ncells (List.replicate n (([0],[]):NRow)) (List.replicate n (.slice none 0 0)):=rfl
  rw [e]
  match j with
  | 0 => rfl
  | 1 => rfl
  | j + 2 =>
   have:=ih j oM
   simp only [List.getElem?_cons_succ]
   rw [this]
   have:(j + 2) % 2 = j % 2:=by omega
   rw [this]
theorem ncells_rep_len (n:Nat):(ncells (List.replicate n (([0],[]):NRow)) (List.replicate n (.slice none 0 0))).length = n * 2:=by
 rw [ncells_len (n:=1) (fun r h => by rw [List.eq_of_mem_replicate h];rfl) (by simp)]
 simp
theorem OwnNs.makeW (w:World) (e e1:TypeId) (n:Nat) (hn:n ≤ 1000):OwnNs w.heap.size e e1 1 (w.alloc (.cells (madeCells #[.int .i64 0,.slice none 0 0] (n * 2)) e)) (.slice (some ⟨w.heap.size,0,none⟩) n n) (nestWrite (List.replicate n ⟨0,[]⟩)) (List.replicate n (.slice none 0 0)):=by
 have hrep:∀ (i:Nat) (s:Value),(List.replicate n (Value.slice none 0 0))[i]? = some s → s = .slice none 0 0:=by
  intro i s h
  exact List.eq_of_mem_replicate (List.mem_of_getElem? h)
 have hft:∀ k,k ∈ feet [Value.slice none 0 0] → False:=by simp [feet,Value.ownBlock]
 rw [nestW_rep]
 refine ⟨fun r h => by rw [List.eq_of_mem_replicate h];rfl,by simp,Own.of_blk (cap:=n) (Blk.new _ _ _) (Nat.le_refl _) (by simp [size_madeCells]) (by rw [ncells_rep_len]) (Nat.le_refl _) (by unfold maxLen;omega) ?_,⟨fun i s r h1 h2 => ?_,fun i j s t k _ h1 h2 h3 => ?_,fun i s k h1 h2 h3 => ?_⟩⟩
 ·
  intro j hj
  rw [ncells_rep n j hj]
  have hj2:j % 2 = 0 ∨ j % 2 = 1:=by omega
  rcases hj2 with h | h <;> simp [madeCells,hj,h]
 ·
  rw [hrep i s h1]
  have:r = ([0],[]):=List.eq_of_mem_replicate (List.mem_of_getElem? h2)
  rw [this]
  exact OwnI.nil _ _ _ _
 ·
  rw [hrep i s h1] at h3;exact (hft k h3).elim
 rw [hrep i s h1] at h2;exact (hft k h2).elim
end Go.G8
namespace Go.Proofs.YtcnioiieiebodaaGreat
open Go.RowKit Go.G8
section
variable {B B':Nat} {w w':World} {v t0 t1:Value} {l:List (List Int)} {lw:List DWrite} {d:DDisk}
def OwK (B:Nat) (w:World) (v:Value) (l:List (List Int)):Prop:=∃ ss,OwnNs B 79 2 0 w v (nestInt64S l) ss
def OwW (B:Nat) (w:World) (v:Value) (l:List DWrite):Prop:=∃ ss,OwnNs B 179 2 1 w v (nestWrite l) ss
def KrK (B:Nat) (w:World) (v:Value) (l:List (List Int)):Prop:=∀ w',Kp B boxTs w w' → Nest 0 w' v (nestInt64S l)
def KrW (B:Nat) (w:World) (v:Value) (l:List DWrite):Prop:=∀ w',Kp B boxTs w w' → Nest 1 w' v (nestWrite l)
theorem OwK.kp (h:OwK B w v l) (x:Kp B boxTs w w'):OwK B w' v l:=let ⟨ss,h⟩:=h;⟨ss,h.kp x dC dC⟩
theorem OwW.kp (h:OwW B w v lw) (x:Kp B boxTs w w'):OwW B w' v lw:=let ⟨ss,h⟩:=h;⟨ss,h.kp x dC dC⟩
theorem OwK.mono9 (h:OwK B w v l) (x:B' ≤ B):OwK B' w v l:=let ⟨ss,h⟩:=h;⟨ss,h.mono x⟩
theorem OwW.mono9 (h:OwW B w v lw) (x:B' ≤ B):OwW B' w v lw:=let ⟨ss,h⟩:=h;⟨ss,h.mono x⟩
theorem OwK.kr (h:OwK B w v l):KrK B w v l:=fun _ x => let ⟨_,h⟩:=h.kp x;h.nest
theorem OwW.kr (h:OwW B w v lw):KrW B w v lw:=fun _ x => let ⟨_,h⟩:=h.kp x;h.nest
theorem KrK.kp (h:KrK B w v l) (x:Kp B boxTs w w'):KrK B w' v l:=fun _ y => h _ (x.trans y)
theorem KrW.kp (h:KrW B w v lw) (x:Kp B boxTs w w'):KrW B w' v lw:=fun _ y => h _ (x.trans y)
theorem KrK.mono9 (h:KrK B w v l) (x:B' ≤ B):KrK B' w v l:=fun _ y => h _ (y.less x)
theorem KrW.mono9 (h:KrW B w v lw) (x:B' ≤ B):KrW B' w v lw:=fun _ y => h _ (y.less x)
theorem KrDisk.of (h0:KrK B w t0 l) (h1:KrW B w t1 lw):KrDisk B w (.agg #[t0,t1]) ⟨l,lw⟩:=fun w' x => ⟨t0,t1,rfl,h0 w' x,h1 w' x⟩
theorem IsDisk.ow2 (h:IsDisk B w (.agg #[t0,t1]) d):OwK B w t0 d.Kept ∧ OwW B w t1 d.Wait:=by
 obtain ⟨u0,u1,s0,s1,e,h0,h1,_⟩:=h
 injection e with e;injection e with e;injection e with e1 e;injection e with e2 _
 subst e1;subst e2
 exact ⟨⟨s0,h0⟩,⟨s1,h1⟩⟩
theorem KrK.tail {a:Option Addr} {n k:Nat} (h:KrK B w (.slice a n k) l) (h1:1 ≤ n):KrK B w (Go.sliced a 1 n k 1) (l.drop 1):=fun w' x => by
 have:=Nest.tail (h w' x) h1
 simp only [nestInt64S,← List.map_drop] at this ⊢
 exact this
theorem OwK.len {a:Option Addr} {n k:Nat} (h:OwK B w (.slice a n k) l):n = l.length:=by
 obtain ⟨ss,h⟩:=h
 obtain ⟨_,_,e,_⟩:=h.nest.open_
 injection e with _ e2 _
 simpa [nestInt64S] using e2
end
end Go.Proofs.YtcnioiieiebodaaGreat
namespace Go.G8
open Go.RowKit
open Go.Proofs.YtcnioiieiebodaaGreat
theorem OwnNs.app {w w':World} {B B':Nat} {t t1 e:TypeId} {n m:Nat} {v u:Value} {rows:List NRow} {ss xs:List Value} (h:OwnNs B' t t1 m w u rows ss) (ho:Own B e n w v xs) (ht:t ≠ e) (ht1:t1 ≠ e) (hg:w.grownBy w' v.ownBlock):OwnNs B' t t1 m w' u rows ss :=
 ⟨h.1,h.2.1,Own.app h.2.2.1 ho ht hg,⟨fun i s r h1 h2 => OwnI.app (h.2.2.2.own i s r h1 h2) ho ht1 hg,h.2.2.2.two,h.2.2.2.out⟩⟩
end Go.G8
namespace Go.Proofs.YtcnioiieiebodaaGreat
open Go.RowKit Go.G8
def OwKs (B:Nat) (w:World) (v:Value) (l:List (List Int)) (ss:List Value):Prop:=OwnNs B 79 2 0 w v (nestInt64S l) ss
def OwWs (B:Nat) (w:World) (v:Value) (l:List DWrite) (ss:List Value):Prop:=OwnNs B 179 2 1 w v (nestWrite l) ss
theorem OwKs.kp {B:Nat} {w w':World} {v:Value} {l:List (List Int)} {ss:List Value} (h:OwKs B w v l ss) (x:Kp B boxTs w w'):OwKs B w' v l ss:=OwnNs.kp h x dC dC
theorem OwWs.kp {B:Nat} {w w':World} {v:Value} {l:List DWrite} {ss:List Value} (h:OwWs B w v l ss) (x:Kp B boxTs w w'):OwWs B w' v l ss:=OwnNs.kp h x dC dC
theorem OwW.len {B:Nat} {w:World} {l:List DWrite} {a:Option Addr} {n k:Nat} (h:OwW B w (.slice a n k) l):n = l.length:=by
 obtain ⟨ss,h⟩:=h
 obtain ⟨_,_,e,_⟩:=h.nest.open_
 injection e with _ e2 _
 simpa [nestWrite] using e2
theorem OwW.made {W0 W:World} (N:Nat) (hn:N ≤ 1000) (hs:W.heap.size = W0.heap.size):OwW W0.heap.size (W.alloc (.cells (madeCells #[.int .i64 0,.slice none 0 0] (N * 2)) 179)) (.slice (some ⟨W0.heap.size,0,none⟩) N N) (List.replicate N ⟨0,[]⟩):=by
 rw [← hs];exact ⟨_,OwnNs.makeW _ _ _ N hn⟩
theorem OwK.made {W0 W:World} (N:Nat) (hn:N ≤ 1000) (hs:W.heap.size = W0.heap.size):OwK W0.heap.size (W.alloc (.cells (madeCells #[.slice none 0 0] N) 79)) (.slice (some ⟨W0.heap.size,0,none⟩) N N) (List.replicate N []):=by
 rw [← hs];exact ⟨_,OwnNs.makeK _ _ _ N hn⟩
theorem OwK.cap {B:Nat} {w:World} {l:List (List Int)} {a:Option Addr} {n k:Nat} (h:OwK B w (.slice a n k) l):n ≤ k:=by
 obtain ⟨ss,h⟩:=h
 obtain ⟨_,_,e,h1,_⟩:=h.nest.open_
 injection e with _ e2 e3
 subst e2;subst e3;exact h1
theorem l3DrawAny_c {B:Nat} {w:World} {g:Nat} (h:Cur B w g):Calls Tryz.prog 143 #[.pointer (some ⟨g,0,none⟩)] w (Dr B w g fun v w' => ∃ d:DDisk,KrDisk w.heap.size w' v d):=by
 obtain ⟨i0,hi,iz0,iz1,iz2⟩:=info_parts info_Int64S
 obtain ⟨j0,hj,jz0,jz1,jz2⟩:=info_parts info_Write
 have hc0:=h;have E0:Upd w w [g]:=Upd.refl _ _
 have hg0:=h.lt
 go_enter Tryz.func143,Tryz.ntmps143
 go_wp2_with fail
 refine (l3Draw_c (cU B)).mono ?_
 rintro e w1 ⟨_,rfl,X1,hc1,dd,gD0,hok⟩
 have hz1:=X1.sz
 have E1:Upd w w1 [g]:=X1.up
 have KR1:Blk w1 w.heap.size 57 #[.slice none 0 0,.slice none 0 0]:=bU X1
 clear X1
 obtain ⟨CR1,FR1,LR1⟩:=KR1.cfl
 obtain ⟨ad0,nd0,kd0,ad1,nd1,kd1,rfl⟩:=gD0.rd.shape
 obtain ⟨gK,gW⟩:=gD0.ow2;clear gD0
 replace gK:=gK.mono9 (B':=w.heap.size) zT
 replace gW:=gW.mono9 (B':=w.heap.size) zT
 have hKl:=gK.len;have hWl:=gW.len;have hKc:=gK.cap
 obtain ⟨_,_,hl1,hl2⟩:=diskOk_all hok
 have hW60:dd.Wait.length ≤ 60:=(diskOk_rows hok).2.2.2.2
 clear hok
 have h1n:1 ≤ nd0:=by omega
 have h40:nd0 ≤ 40:=by omega
 have h60:nd1 ≤ 60:=by omega
 have HKl:=Lib.hid hKl;have HWl:=Lib.hid hWl;clear hKl hWl hl1 hl2 hW60
 go_wp2_with fail
 refine (l1Once_c (cU B) 6).mono ?_
 rintro e w2 ⟨_,rfl,X2,hc2,b1,rfl⟩
 have P2:Kp w.heap.size boxTs w1 w2:=Kp.upd kpT X2 oM
 have gK:=gK.kp P2
 have gW:=gW.kp P2
 clear P2
 have hz2:=X2.sz
 have E2:Upd w w2 [g]:=X2.up
 have KR2:=KR1.upv X2
 have KD2:Blk w2 w1.heap.size 57 #[.slice ad0 nd0 kd0,.slice ad1 nd1 kd1]:=bU X2
 clear X2
 clear CR1 FR1 LR1
 obtain ⟨CR2,FR2,LR2⟩:=KR2.cfl
 obtain ⟨CD2,FD2,LD2⟩:=KD2.cfl
 cases b1
 rotate_left
 ·
  go_wp2_with fail
  refine (l1Below_c (cU B) 5).mono ?_
  rintro e w3 ⟨_,rfl,X3,hc3,m,rfl,pm,qm,rm⟩
  have P3:Kp w.heap.size boxTs w2 w3:=Kp.upd kpT X3 oM
  have gK:=gK.kp P3
  have gW:=gW.kp P3
  clear P3
  have hz3:=X3.sz
  have E3:Upd w w3 [g]:=X3.up
  have KR3:=KR2.upv X3
  have KD3:=KD2.upv X3
  clear X3
  clear CR2 FR2 LR2 CD2 FD2 LD2
  obtain ⟨CR3,FR3,LR3⟩:=KR3.cfl
  obtain ⟨CD3,FD3,LD3⟩:=KD3.cfl
  have qm:=qm dC;clear rm
  obtain rfl | rfl | rfl | rfl | rfl:m = 0 ∨ m = 1 ∨ m = 2 ∨ m = 3 ∨ m = 4:=by omega
  ·
   obtain ⟨ssO,hO⟩:=gK
   replace hO:OwKs w.heap.size w3 (.slice ad0 nd0 kd0) dd.Kept ssO:=hO
   have hf:=OwnNs.foot hO
   have hll:(nestInt64S dd.Kept).length = dd.Kept.length:=by simp [nestInt64S]
   have hL60:dd.Kept.length ≤ 60:=by have:=HKl.out;omega
   go_wp2_with fail
   refine wh (S:=fun w' => Upd w w' [g] ∧ Cur B w' g) fun hHeld => ?_
   refine wt 0 ?_
   (try simp only [redA,Act.put])
   refine wt 2 ?_
   (try simp only [redA,Act.put])
   refine wr2 1 3 (fun Kz hKz => ?_) fun Kz hKz => ?_
   ·
    (try simp only [redA])
    go_simp
    refine hKz.o2 fun hHeld => ?_
    clear hKz Kz
    (try simp only [redA,Act.put])
    refine wr1 3 fun Kz hKz => ?_
    (try simp only [redA])
    have hbW:w3.heap.size ≤ w3.heap.size:=by omega
    go_simp
    go_at_call 142
    refine (l1DrawAny_c (cU B)).mono ?_
    rintro e w4 ⟨_,rfl,X4,hc4,rw,Oq9,hrw⟩
    have P4:Kp w.heap.size boxTs w3 w4:=Kp.upd kpT X4 oM
    have hO:=hO.kp P4
    have gW:=gW.kp P4
    clear P4
    have hz4:=X4.sz
    have E4:Upd w w4 [g]:=X4.up
    have KR4:=KR3.upv X4
    have KD4:=KD3.upv X4
    clear X4
    clear CR3 FR3 LR3 CD3 FD3 LD3
    obtain ⟨CR4,FR4,LR4⟩:=KR4.cfl
    obtain ⟨CD4,FD4,LD4⟩:=KD4.cfl
    obtain ⟨aq,nq,kq,rfl⟩:=Oq9.shape
    replace Oq9:OwnI w3.heap.size 2 1 w4 (.slice aq nq kq) rw:=OwnI.mono Oq9 zT
    refine hKz.o2 fun hHeld => ?_
    clear hKz Kz
    (try simp only [redA,Act.put])
    refine wr1 4 fun Kz hKz => ?_
    (try simp only [redA])
    go_simp
    refine hKz.o2 fun hHeld => ?_
    clear hKz Kz
    (try simp only [redA,Act.put])
    refine wr1 5 fun Kz hKz => ?_
    (try simp only [redA])
    have OO:OwnNs w.heap.size 79 2 0 (w4.alloc (.cells #[.slice aq nq kq] 79)) (.slice ad0 nd0 kd0) (nestInt64S dd.Kept) ssO:=OwnNs.ext hO ((Ext.refl _).alloc _)
    (rw [if_pos (by rfl)];refine wp_append_row0 (n:=0) (r:=([],rw)) (.tmp 13) (.tmp 16) 54 (by rfl) i0 _ 24 Tryz.underlying54 hi iz0 iz1 iz2 rfl (by rfl) OO _ (by rfl) _ (by exact Blk.new _ _ _) (by rfl) rfl (OwnI.ext Oq9 ((Ext.refl _).alloc _)) oM (fun k hk => (hf k hk).2) 1001 (by rw [hll];omega) (by unfold maxLen;omega) oM (by (try simp only [World.size_alloc]);omega) ?_;intro gx cp w5 hown1 hga hxa hua)
    have hz5:=hga.size;(try simp only [szA] at hz5)
    have E5:Upd w w5 [g]:=hua w [g] (by exact updT) (Nat.le_refl _)
    have hc5:Cur B w5 g:=Cur.app (by exact curT) OO.2.2.1 oM hga
    have KR5:Blk w5 w.heap.size 57 #[.slice none 0 0,.slice none 0 0]:=Blk.app bC OO.2.2.1 dC hga
    have KD5:Blk w5 w1.heap.size 57 #[.slice ad0 nd0 kd0,.slice ad1 nd1 kd1]:=Blk.app bC OO.2.2.1 dC hga
    have gW:OwW w.heap.size w5 (.slice ad1 nd1 kd1) dd.Wait:=(let ⟨ss9,h9⟩:=gW.kp kpT;⟨ss9,OwnNs.app h9 OO.2.2.1 dC dC hga⟩)
    clear hga hua hxa
    clear CR4 FR4 LR4 CD4 FD4 LD4
    obtain ⟨CR5,FR5,LR5⟩:=KR5.cfl
    obtain ⟨CD5,FD5,LD5⟩:=KD5.cfl
    have gA:OwK w.heap.size w5 (.slice (some ⟨gx,0,none⟩) ((nestInt64S dd.Kept).length + 1) cp) (dd.Kept ++ [rw]):=⟨_,by (try simp only [nestInt64S,nestWrite,List.map_append,List.map_cons,List.map_nil]);exact hown1⟩
    rw [hll] at gA
    clear hown1 OO
    refine hKz.o2 fun hHeld => ?_
    clear hKz Kz
    (try simp only [redA,Act.put])
    refine wt 6 ?_
    (try simp only [redA,Act.put])
    refine wr1 7 fun Kz hKz => ?_
    (try simp only [redA])
    go_simp
    refine hKz.o2 fun hHeld => ?_
    clear hKz Kz
    (try simp only [redA,Act.put])
    refine wpAnyH_done (by kernel_rfl) ?_ _
    go_wp2_with fail
    refine bodyPost_ret (by simp [results,Tryz.results143,go_sem,CR5,FR5,LR5,CD5,FD5,LD5];try rfl) rfl ?_
    exact ⟨_,rfl,by exact updT,by exact curT,_,KrDisk.of (OwK.kr (gA.kp kpT)) (OwW.kr (gW.kp kpT))⟩
   (try simp only [redA])
   have hbW:w3.heap.size ≤ w3.heap.size:=by omega
   go_simp
   go_at_call 142
   refine (l1DrawAny_c (cU B)).mono ?_
   rintro e w4 ⟨_,rfl,X4,hc4,rw,Oq9,hrw⟩
   have P4:Kp w.heap.size boxTs w3 w4:=Kp.upd kpT X4 oM
   have hO:=hO.kp P4
   have gW:=gW.kp P4
   clear P4
   have hz4:=X4.sz
   have E4:Upd w w4 [g]:=X4.up
   have KR4:=KR3.upv X4
   have KD4:=KD3.upv X4
   clear X4
   clear CR3 FR3 LR3 CD3 FD3 LD3
   obtain ⟨CR4,FR4,LR4⟩:=KR4.cfl
   obtain ⟨CD4,FD4,LD4⟩:=KD4.cfl
   obtain ⟨aq,nq,kq,rfl⟩:=Oq9.shape
   replace Oq9:OwnI w3.heap.size 2 1 w4 (.slice aq nq kq) rw:=OwnI.mono Oq9 zT
   refine hKz.o2 fun hHeld => ?_
   clear hKz Kz
   (try simp only [redA,Act.put])
   refine wr2 1 4 (fun Kz hKz => ?_) fun Kz hKz => ?_
   ·
    (try simp only [redA])
    go_simp
    refine hKz.o2 fun hHeld => ?_
    clear hKz Kz
    (try simp only [redA,Act.put])
    refine wr1 4 fun Kz hKz => ?_
    (try simp only [redA])
    go_simp
    refine hKz.o2 fun hHeld => ?_
    clear hKz Kz
    (try simp only [redA,Act.put])
    refine wr1 5 fun Kz hKz => ?_
    (try simp only [redA])
    have OO:OwnNs w.heap.size 79 2 0 (w4.alloc (.cells #[.slice aq nq kq] 79)) (.slice ad0 nd0 kd0) (nestInt64S dd.Kept) ssO:=OwnNs.ext hO ((Ext.refl _).alloc _)
    (rw [if_pos (by rfl)];refine wp_append_row0 (n:=0) (r:=([],rw)) (.tmp 13) (.tmp 16) 54 (by rfl) i0 _ 24 Tryz.underlying54 hi iz0 iz1 iz2 rfl (by rfl) OO _ (by rfl) _ (by exact Blk.new _ _ _) (by rfl) rfl (OwnI.ext Oq9 ((Ext.refl _).alloc _)) oM (fun k hk => (hf k hk).2) 1001 (by rw [hll];omega) (by unfold maxLen;omega) oM (by (try simp only [World.size_alloc]);omega) ?_;intro gx cp w5 hown1 hga hxa hua)
    have hz5:=hga.size;(try simp only [szA] at hz5)
    have E5:Upd w w5 [g]:=hua w [g] (by exact updT) (Nat.le_refl _)
    have hc5:Cur B w5 g:=Cur.app (by exact curT) OO.2.2.1 oM hga
    have KR5:Blk w5 w.heap.size 57 #[.slice none 0 0,.slice none 0 0]:=Blk.app bC OO.2.2.1 dC hga
    have KD5:Blk w5 w1.heap.size 57 #[.slice ad0 nd0 kd0,.slice ad1 nd1 kd1]:=Blk.app bC OO.2.2.1 dC hga
    have gW:OwW w.heap.size w5 (.slice ad1 nd1 kd1) dd.Wait:=(let ⟨ss9,h9⟩:=gW.kp kpT;⟨ss9,OwnNs.app h9 OO.2.2.1 dC dC hga⟩)
    clear hga hua hxa
    clear CR4 FR4 LR4 CD4 FD4 LD4
    obtain ⟨CR5,FR5,LR5⟩:=KR5.cfl
    obtain ⟨CD5,FD5,LD5⟩:=KD5.cfl
    have gA:OwK w.heap.size w5 (.slice (some ⟨gx,0,none⟩) ((nestInt64S dd.Kept).length + 1) cp) (dd.Kept ++ [rw]):=⟨_,by (try simp only [nestInt64S,nestWrite,List.map_append,List.map_cons,List.map_nil]);exact hown1⟩
    rw [hll] at gA
    clear hown1 OO
    refine hKz.o2 fun hHeld => ?_
    clear hKz Kz
    (try simp only [redA,Act.put])
    refine wt 6 ?_
    (try simp only [redA,Act.put])
    refine wr1 7 fun Kz hKz => ?_
    (try simp only [redA])
    go_simp
    refine hKz.o2 fun hHeld => ?_
    clear hKz Kz
    (try simp only [redA,Act.put])
    refine wpAnyH_done (by kernel_rfl) ?_ _
    go_wp2_with fail
    refine bodyPost_ret (by simp [results,Tryz.results143,go_sem,CR5,FR5,LR5,CD5,FD5,LD5];try rfl) rfl ?_
    exact ⟨_,rfl,by exact updT,by exact curT,_,KrDisk.of (OwK.kr (gA.kp kpT)) (OwW.kr (gW.kp kpT))⟩
   (try simp only [redA])
   go_simp
   refine hKz.o2 fun hHeld => ?_
   clear hKz Kz
   (try simp only [redA,Act.put])
   refine wr1 1 fun Kz hKz => ?_
   (try simp only [redA])
   go_simp
   refine hKz.o2 fun hHeld => ?_
   clear hKz Kz
   (try simp only [redA,Act.put])
   refine wr1 5 fun Kz hKz => ?_
   (try simp only [redA])
   have OO:OwnNs w.heap.size 79 2 0 (w4.alloc (.cells #[.slice aq nq kq] 79)) (.slice ad0 nd0 kd0) (nestInt64S dd.Kept) ssO:=OwnNs.ext hO ((Ext.refl _).alloc _)
   (rw [if_pos (by rfl)];refine wp_append_row0 (n:=0) (r:=([],rw)) (.tmp 13) (.tmp 16) 54 (by rfl) i0 _ 24 Tryz.underlying54 hi iz0 iz1 iz2 rfl (by rfl) OO _ (by rfl) _ (by exact Blk.new _ _ _) (by rfl) rfl (OwnI.ext Oq9 ((Ext.refl _).alloc _)) oM (fun k hk => (hf k hk).2) 1001 (by rw [hll];omega) (by unfold maxLen;omega) oM (by (try simp only [World.size_alloc]);omega) ?_;intro gx cp w5 hown1 hga hxa hua)
   have hz5:=hga.size;(try simp only [szA] at hz5)
   have E5:Upd w w5 [g]:=hua w [g] (by exact updT) (Nat.le_refl _)
   have hc5:Cur B w5 g:=Cur.app (by exact curT) OO.2.2.1 oM hga
   have KR5:Blk w5 w.heap.size 57 #[.slice none 0 0,.slice none 0 0]:=Blk.app bC OO.2.2.1 dC hga
   have KD5:Blk w5 w1.heap.size 57 #[.slice ad0 nd0 kd0,.slice ad1 nd1 kd1]:=Blk.app bC OO.2.2.1 dC hga
   have gW:OwW w.heap.size w5 (.slice ad1 nd1 kd1) dd.Wait:=(let ⟨ss9,h9⟩:=gW.kp kpT;⟨ss9,OwnNs.app h9 OO.2.2.1 dC dC hga⟩)
   clear hga hua hxa
   clear CR4 FR4 LR4 CD4 FD4 LD4
   obtain ⟨CR5,FR5,LR5⟩:=KR5.cfl
   obtain ⟨CD5,FD5,LD5⟩:=KD5.cfl
   have gA:OwK w.heap.size w5 (.slice (some ⟨gx,0,none⟩) ((nestInt64S dd.Kept).length + 1) cp) (dd.Kept ++ [rw]):=⟨_,by (try simp only [nestInt64S,nestWrite,List.map_append,List.map_cons,List.map_nil]);exact hown1⟩
   rw [hll] at gA
   clear hown1 OO
   refine hKz.o2 fun hHeld => ?_
   clear hKz Kz
   (try simp only [redA,Act.put])
   refine wt 6 ?_
   (try simp only [redA,Act.put])
   refine wr1 7 fun Kz hKz => ?_
   (try simp only [redA])
   go_simp
   refine hKz.o2 fun hHeld => ?_
   clear hKz Kz
   (try simp only [redA,Act.put])
   refine wpAnyH_done (by kernel_rfl) ?_ _
   go_wp2_with fail
   refine bodyPost_ret (by simp [results,Tryz.results143,go_sem,CR5,FR5,LR5,CD5,FD5,LD5];try rfl) rfl ?_
   exact ⟨_,rfl,by exact updT,by exact curT,_,KrDisk.of (OwK.kr (gA.kp kpT)) (OwW.kr (gW.kp kpT))⟩
  ·
   obtain ⟨ssO,hO⟩:=gW
   replace hO:OwWs w.heap.size w3 (.slice ad1 nd1 kd1) dd.Wait ssO:=hO
   have hf:=OwnNs.foot hO
   have hll:(nestWrite dd.Wait).length = dd.Wait.length:=by simp [nestWrite]
   have hL60:dd.Wait.length ≤ 60:=by have:=HWl.out;omega
   go_wp2_with fail
   refine wh (S:=fun w' => Upd w w' [g] ∧ Cur B w' g) fun hHeld => ?_
   refine wt 0 ?_
   (try simp only [redA,Act.put])
   refine wt 2 ?_
   (try simp only [redA,Act.put])
   refine wt 4 ?_
   (try simp only [redA,Act.put])
   refine wr2 1 3 (fun Kz hKz => ?_) fun Kz hKz => ?_
   ·
    (try simp only [redA])
    go_simp
    refine hKz.o2 fun hHeld => ?_
    clear hKz Kz
    (try simp only [redA,Act.put])
    refine wr1 3 fun Kz hKz => ?_
    (try simp only [redA])
    go_simp
    go_at_call 32
    refine (l1From_c (cU B) (-1) 6 oM oM oM).mono ?_
    rintro e w4 ⟨_,rfl,X4,hc4,x,rfl,px,qx⟩
    have P4:Kp w.heap.size boxTs w3 w4:=Kp.upd kpT X4 oM
    have hO:=hO.kp P4
    have gK:=gK.kp P4
    clear P4
    have hz4:=X4.sz
    have E4:Upd w w4 [g]:=X4.up
    have KR4:=KR3.upv X4
    have KD4:=KD3.upv X4
    clear X4
    clear CR3 FR3 LR3 CD3 FD3 LD3
    obtain ⟨CR4,FR4,LR4⟩:=KR4.cfl
    obtain ⟨CD4,FD4,LD4⟩:=KD4.cfl
    refine hKz.o2 fun hHeld => ?_
    clear hKz Kz
    (try simp only [redA,Act.put])
    refine wr1 5 fun Kz hKz => ?_
    (try simp only [redA])
    have hbW:w3.heap.size ≤ w4.heap.size:=by omega
    go_simp
    go_at_call 142
    refine (l1DrawAny_c (cU B)).mono ?_
    rintro e w5 ⟨_,rfl,X5,hc5,rw,Oq9,hrw⟩
    have P5:Kp w.heap.size boxTs w4 w5:=Kp.upd kpT X5 oM
    have hO:=hO.kp P5
    have gK:=gK.kp P5
    clear P5
    have hz5:=X5.sz
    have E5:Upd w w5 [g]:=X5.up
    have KR5:=KR4.upv X5
    have KD5:=KD4.upv X5
    clear X5
    clear CR4 FR4 LR4 CD4 FD4 LD4
    obtain ⟨CR5,FR5,LR5⟩:=KR5.cfl
    obtain ⟨CD5,FD5,LD5⟩:=KD5.cfl
    obtain ⟨aq,nq,kq,rfl⟩:=Oq9.shape
    replace Oq9:OwnI w3.heap.size 2 1 w5 (.slice aq nq kq) rw:=OwnI.mono Oq9 zT
    refine hKz.o2 fun hHeld => ?_
    clear hKz Kz
    (try simp only [redA,Act.put])
    refine wt 6 ?_
    (try simp only [redA,Act.put])
    refine wr1 7 fun Kz hKz => ?_
    (try simp only [redA])
    go_simp
    refine hKz.o2 fun hHeld => ?_
    clear hKz Kz
    (try simp only [redA,Act.put])
    refine wr1 8 fun Kz hKz => ?_
    (try simp only [redA])
    have OO:OwnNs w.heap.size 179 2 1 (w5.alloc (.cells #[.int .i64 x,.slice aq nq kq] 179)) (.slice ad1 nd1 kd1) (nestWrite dd.Wait) ssO:=OwnNs.ext hO ((Ext.refl _).alloc _)
    (rw [if_pos (by rfl)];refine wp_append_row0 (n:=1) (r:=([x],rw)) (.tmp 22) (.tmp 28) 55 (by rfl) j0 _ 32 Tryz.underlying55 hj jz0 jz1 jz2 rfl (by rfl) OO _ (by rfl) _ (by exact Blk.new _ _ _) (by rfl) rfl (OwnI.ext Oq9 ((Ext.refl _).alloc _)) oM (fun k hk => (hf k hk).2) 1001 (by rw [hll];omega) (by unfold maxLen;omega) oM (by (try simp only [World.size_alloc]);omega) ?_;intro gx cp w6 hown1 hga hxa hua)
    have hz6:=hga.size;(try simp only [szA] at hz6)
    have E6:Upd w w6 [g]:=hua w [g] (by exact updT) (Nat.le_refl _)
    have hc6:Cur B w6 g:=Cur.app (by exact curT) OO.2.2.1 oM hga
    have KR6:Blk w6 w.heap.size 57 #[.slice none 0 0,.slice none 0 0]:=Blk.app bC OO.2.2.1 dC hga
    have KD6:Blk w6 w1.heap.size 57 #[.slice ad0 nd0 kd0,.slice ad1 nd1 kd1]:=Blk.app bC OO.2.2.1 dC hga
    have gK:OwK w.heap.size w6 (.slice ad0 nd0 kd0) dd.Kept:=(let ⟨ss9,h9⟩:=gK.kp kpT;⟨ss9,OwnNs.app h9 OO.2.2.1 dC dC hga⟩)
    clear hga hua hxa
    clear CR5 FR5 LR5 CD5 FD5 LD5
    obtain ⟨CR6,FR6,LR6⟩:=KR6.cfl
    obtain ⟨CD6,FD6,LD6⟩:=KD6.cfl
    have gA:OwW w.heap.size w6 (.slice (some ⟨gx,0,none⟩) ((nestWrite dd.Wait).length + 1) cp) (dd.Wait ++ [⟨x,rw⟩]):=⟨_,by (try simp only [nestInt64S,nestWrite,List.map_append,List.map_cons,List.map_nil]);exact hown1⟩
    rw [hll] at gA
    clear hown1 OO
    refine hKz.o2 fun hHeld => ?_
    clear hKz Kz
    (try simp only [redA,Act.put])
    refine wt 9 ?_
    (try simp only [redA,Act.put])
    refine wr1 10 fun Kz hKz => ?_
    (try simp only [redA])
    go_simp
    refine hKz.o2 fun hHeld => ?_
    clear hKz Kz
    (try simp only [redA,Act.put])
    refine wpAnyH_done (by kernel_rfl) ?_ _
    go_wp2_with fail
    refine bodyPost_ret (by simp [results,Tryz.results143,go_sem,CR6,FR6,LR6,CD6,FD6,LD6];try rfl) rfl ?_
    exact ⟨_,rfl,by exact updT,by exact curT,_,KrDisk.of (OwK.kr (gK.kp kpT)) (OwW.kr (gA.kp kpT))⟩
   (try simp only [redA])
   go_simp
   go_at_call 32
   refine (l1From_c (cU B) (-1) 6 oM oM oM).mono ?_
   rintro e w4 ⟨_,rfl,X4,hc4,x,rfl,px,qx⟩
   have P4:Kp w.heap.size boxTs w3 w4:=Kp.upd kpT X4 oM
   have hO:=hO.kp P4
   have gK:=gK.kp P4
   clear P4
   have hz4:=X4.sz
   have E4:Upd w w4 [g]:=X4.up
   have KR4:=KR3.upv X4
   have KD4:=KD3.upv X4
   clear X4
   clear CR3 FR3 LR3 CD3 FD3 LD3
   obtain ⟨CR4,FR4,LR4⟩:=KR4.cfl
   obtain ⟨CD4,FD4,LD4⟩:=KD4.cfl
   refine hKz.o2 fun hHeld => ?_
   clear hKz Kz
   (try simp only [redA,Act.put])
   refine wr2 1 5 (fun Kz hKz => ?_) fun Kz hKz => ?_
   ·
    (try simp only [redA])
    go_simp
    refine hKz.o2 fun hHeld => ?_
    clear hKz Kz
    (try simp only [redA,Act.put])
    refine wr1 5 fun Kz hKz => ?_
    (try simp only [redA])
    have hbW:w3.heap.size ≤ w4.heap.size:=by omega
    go_simp
    go_at_call 142
    refine (l1DrawAny_c (cU B)).mono ?_
    rintro e w5 ⟨_,rfl,X5,hc5,rw,Oq9,hrw⟩
    have P5:Kp w.heap.size boxTs w4 w5:=Kp.upd kpT X5 oM
    have hO:=hO.kp P5
    have gK:=gK.kp P5
    clear P5
    have hz5:=X5.sz
    have E5:Upd w w5 [g]:=X5.up
    have KR5:=KR4.upv X5
    have KD5:=KD4.upv X5
    clear X5
    clear CR4 FR4 LR4 CD4 FD4 LD4
    obtain ⟨CR5,FR5,LR5⟩:=KR5.cfl
    obtain ⟨CD5,FD5,LD5⟩:=KD5.cfl
    obtain ⟨aq,nq,kq,rfl⟩:=Oq9.shape
    replace Oq9:OwnI w3.heap.size 2 1 w5 (.slice aq nq kq) rw:=OwnI.mono Oq9 zT
    refine hKz.o2 fun hHeld => ?_
    clear hKz Kz
    (try simp only [redA,Act.put])
    refine wt 6 ?_
    (try simp only [redA,Act.put])
    refine wr1 7 fun Kz hKz => ?_
    (try simp only [redA])
    go_simp
    refine hKz.o2 fun hHeld => ?_
    clear hKz Kz
    (try simp only [redA,Act.put])
    refine wr1 8 fun Kz hKz => ?_
    (try simp only [redA])
    have OO:OwnNs w.heap.size 179 2 1 (w5.alloc (.cells #[.int .i64 x,.slice aq nq kq] 179)) (.slice ad1 nd1 kd1) (nestWrite dd.Wait) ssO:=OwnNs.ext hO ((Ext.refl _).alloc _)
    (rw [if_pos (by rfl)];refine wp_append_row0 (n:=1) (r:=([x],rw)) (.tmp 22) (.tmp 28) 55 (by rfl) j0 _ 32 Tryz.underlying55 hj jz0 jz1 jz2 rfl (by rfl) OO _ (by rfl) _ (by exact Blk.new _ _ _) (by rfl) rfl (OwnI.ext Oq9 ((Ext.refl _).alloc _)) oM (fun k hk => (hf k hk).2) 1001 (by rw [hll];omega) (by unfold maxLen;omega) oM (by (try simp only [World.size_alloc]);omega) ?_;intro gx cp w6 hown1 hga hxa hua)
    have hz6:=hga.size;(try simp only [szA] at hz6)
    have E6:Upd w w6 [g]:=hua w [g] (by exact updT) (Nat.le_refl _)
    have hc6:Cur B w6 g:=Cur.app (by exact curT) OO.2.2.1 oM hga
    have KR6:Blk w6 w.heap.size 57 #[.slice none 0 0,.slice none 0 0]:=Blk.app bC OO.2.2.1 dC hga
    have KD6:Blk w6 w1.heap.size 57 #[.slice ad0 nd0 kd0,.slice ad1 nd1 kd1]:=Blk.app bC OO.2.2.1 dC hga
    have gK:OwK w.heap.size w6 (.slice ad0 nd0 kd0) dd.Kept:=(let ⟨ss9,h9⟩:=gK.kp kpT;⟨ss9,OwnNs.app h9 OO.2.2.1 dC dC hga⟩)
    clear hga hua hxa
    clear CR5 FR5 LR5 CD5 FD5 LD5
    obtain ⟨CR6,FR6,LR6⟩:=KR6.cfl
    obtain ⟨CD6,FD6,LD6⟩:=KD6.cfl
    have gA:OwW w.heap.size w6 (.slice (some ⟨gx,0,none⟩) ((nestWrite dd.Wait).length + 1) cp) (dd.Wait ++ [⟨x,rw⟩]):=⟨_,by (try simp only [nestInt64S,nestWrite,List.map_append,List.map_cons,List.map_nil]);exact hown1⟩
    rw [hll] at gA
    clear hown1 OO
    refine hKz.o2 fun hHeld => ?_
    clear hKz Kz
    (try simp only [redA,Act.put])
    refine wt 9 ?_
    (try simp only [redA,Act.put])
    refine wr1 10 fun Kz hKz => ?_
    (try simp only [redA])
    go_simp
    refine hKz.o2 fun hHeld => ?_
    clear hKz Kz
    (try simp only [redA,Act.put])
    refine wpAnyH_done (by kernel_rfl) ?_ _
    go_wp2_with fail
    refine bodyPost_ret (by simp [results,Tryz.results143,go_sem,CR6,FR6,LR6,CD6,FD6,LD6];try rfl) rfl ?_
    exact ⟨_,rfl,by exact updT,by exact curT,_,KrDisk.of (OwK.kr (gK.kp kpT)) (OwW.kr (gA.kp kpT))⟩
   (try simp only [redA])
   have hbW:w3.heap.size ≤ w4.heap.size:=by omega
   go_simp
   go_at_call 142
   refine (l1DrawAny_c (cU B)).mono ?_
   rintro e w5 ⟨_,rfl,X5,hc5,rw,Oq9,hrw⟩
   have P5:Kp w.heap.size boxTs w4 w5:=Kp.upd kpT X5 oM
   have hO:=hO.kp P5
   have gK:=gK.kp P5
   clear P5
   have hz5:=X5.sz
   have E5:Upd w w5 [g]:=X5.up
   have KR5:=KR4.upv X5
   have KD5:=KD4.upv X5
   clear X5
   clear CR4 FR4 LR4 CD4 FD4 LD4
   obtain ⟨CR5,FR5,LR5⟩:=KR5.cfl
   obtain ⟨CD5,FD5,LD5⟩:=KD5.cfl
   obtain ⟨aq,nq,kq,rfl⟩:=Oq9.shape
   replace Oq9:OwnI w3.heap.size 2 1 w5 (.slice aq nq kq) rw:=OwnI.mono Oq9 zT
   refine hKz.o2 fun hHeld => ?_
   clear hKz Kz
   (try simp only [redA,Act.put])
   refine wt 6 ?_
   (try simp only [redA,Act.put])
   refine wr2 1 7 (fun Kz hKz => ?_) fun Kz hKz => ?_
   ·
    (try simp only [redA])
    go_simp
    refine hKz.o2 fun hHeld => ?_
    clear hKz Kz
    (try simp only [redA,Act.put])
    refine wr1 7 fun Kz hKz => ?_
    (try simp only [redA])
    go_simp
    refine hKz.o2 fun hHeld => ?_
    clear hKz Kz
    (try simp only [redA,Act.put])
    refine wr1 8 fun Kz hKz => ?_
    (try simp only [redA])
    have OO:OwnNs w.heap.size 179 2 1 (w5.alloc (.cells #[.int .i64 x,.slice aq nq kq] 179)) (.slice ad1 nd1 kd1) (nestWrite dd.Wait) ssO:=OwnNs.ext hO ((Ext.refl _).alloc _)
    (rw [if_pos (by rfl)];refine wp_append_row0 (n:=1) (r:=([x],rw)) (.tmp 22) (.tmp 28) 55 (by rfl) j0 _ 32 Tryz.underlying55 hj jz0 jz1 jz2 rfl (by rfl) OO _ (by rfl) _ (by exact Blk.new _ _ _) (by rfl) rfl (OwnI.ext Oq9 ((Ext.refl _).alloc _)) oM (fun k hk => (hf k hk).2) 1001 (by rw [hll];omega) (by unfold maxLen;omega) oM (by (try simp only [World.size_alloc]);omega) ?_;intro gx cp w6 hown1 hga hxa hua)
    have hz6:=hga.size;(try simp only [szA] at hz6)
    have E6:Upd w w6 [g]:=hua w [g] (by exact updT) (Nat.le_refl _)
    have hc6:Cur B w6 g:=Cur.app (by exact curT) OO.2.2.1 oM hga
    have KR6:Blk w6 w.heap.size 57 #[.slice none 0 0,.slice none 0 0]:=Blk.app bC OO.2.2.1 dC hga
    have KD6:Blk w6 w1.heap.size 57 #[.slice ad0 nd0 kd0,.slice ad1 nd1 kd1]:=Blk.app bC OO.2.2.1 dC hga
    have gK:OwK w.heap.size w6 (.slice ad0 nd0 kd0) dd.Kept:=(let ⟨ss9,h9⟩:=gK.kp kpT;⟨ss9,OwnNs.app h9 OO.2.2.1 dC dC hga⟩)
    clear hga hua hxa
    clear CR5 FR5 LR5 CD5 FD5 LD5
    obtain ⟨CR6,FR6,LR6⟩:=KR6.cfl
    obtain ⟨CD6,FD6,LD6⟩:=KD6.cfl
    have gA:OwW w.heap.size w6 (.slice (some ⟨gx,0,none⟩) ((nestWrite dd.Wait).length + 1) cp) (dd.Wait ++ [⟨x,rw⟩]):=⟨_,by (try simp only [nestInt64S,nestWrite,List.map_append,List.map_cons,List.map_nil]);exact hown1⟩
    rw [hll] at gA
    clear hown1 OO
    refine hKz.o2 fun hHeld => ?_
    clear hKz Kz
    (try simp only [redA,Act.put])
    refine wt 9 ?_
    (try simp only [redA,Act.put])
    refine wr1 10 fun Kz hKz => ?_
    (try simp only [redA])
    go_simp
    refine hKz.o2 fun hHeld => ?_
    clear hKz Kz
    (try simp only [redA,Act.put])
    refine wpAnyH_done (by kernel_rfl) ?_ _
    go_wp2_with fail
    refine bodyPost_ret (by simp [results,Tryz.results143,go_sem,CR6,FR6,LR6,CD6,FD6,LD6];try rfl) rfl ?_
    exact ⟨_,rfl,by exact updT,by exact curT,_,KrDisk.of (OwK.kr (gK.kp kpT)) (OwW.kr (gA.kp kpT))⟩
   (try simp only [redA])
   go_simp
   refine hKz.o2 fun hHeld => ?_
   clear hKz Kz
   (try simp only [redA,Act.put])
   refine wr1 1 fun Kz hKz => ?_
   (try simp only [redA])
   go_simp
   refine hKz.o2 fun hHeld => ?_
   clear hKz Kz
   (try simp only [redA,Act.put])
   refine wr1 8 fun Kz hKz => ?_
   (try simp only [redA])
   have OO:OwnNs w.heap.size 179 2 1 (w5.alloc (.cells #[.int .i64 x,.slice aq nq kq] 179)) (.slice ad1 nd1 kd1) (nestWrite dd.Wait) ssO:=OwnNs.ext hO ((Ext.refl _).alloc _)
   (rw [if_pos (by rfl)];refine wp_append_row0 (n:=1) (r:=([x],rw)) (.tmp 22) (.tmp 28) 55 (by rfl) j0 _ 32 Tryz.underlying55 hj jz0 jz1 jz2 rfl (by rfl) OO _ (by rfl) _ (by exact Blk.new _ _ _) (by rfl) rfl (OwnI.ext Oq9 ((Ext.refl _).alloc _)) oM (fun k hk => (hf k hk).2) 1001 (by rw [hll];omega) (by unfold maxLen;omega) oM (by (try simp only [World.size_alloc]);omega) ?_;intro gx cp w6 hown1 hga hxa hua)
   have hz6:=hga.size;(try simp only [szA] at hz6)
   have E6:Upd w w6 [g]:=hua w [g] (by exact updT) (Nat.le_refl _)
   have hc6:Cur B w6 g:=Cur.app (by exact curT) OO.2.2.1 oM hga
   have KR6:Blk w6 w.heap.size 57 #[.slice none 0 0,.slice none 0 0]:=Blk.app bC OO.2.2.1 dC hga
   have KD6:Blk w6 w1.heap.size 57 #[.slice ad0 nd0 kd0,.slice ad1 nd1 kd1]:=Blk.app bC OO.2.2.1 dC hga
   have gK:OwK w.heap.size w6 (.slice ad0 nd0 kd0) dd.Kept:=(let ⟨ss9,h9⟩:=gK.kp kpT;⟨ss9,OwnNs.app h9 OO.2.2.1 dC dC hga⟩)
   clear hga hua hxa
   clear CR5 FR5 LR5 CD5 FD5 LD5
   obtain ⟨CR6,FR6,LR6⟩:=KR6.cfl
   obtain ⟨CD6,FD6,LD6⟩:=KD6.cfl
   have gA:OwW w.heap.size w6 (.slice (some ⟨gx,0,none⟩) ((nestWrite dd.Wait).length + 1) cp) (dd.Wait ++ [⟨x,rw⟩]):=⟨_,by (try simp only [nestInt64S,nestWrite,List.map_append,List.map_cons,List.map_nil]);exact hown1⟩
   rw [hll] at gA
   clear hown1 OO
   refine hKz.o2 fun hHeld => ?_
   clear hKz Kz
   (try simp only [redA,Act.put])
   refine wt 9 ?_
   (try simp only [redA,Act.put])
   refine wr1 10 fun Kz hKz => ?_
   (try simp only [redA])
   go_simp
   refine hKz.o2 fun hHeld => ?_
   clear hKz Kz
   (try simp only [redA,Act.put])
   refine wpAnyH_done (by kernel_rfl) ?_ _
   go_wp2_with fail
   refine bodyPost_ret (by simp [results,Tryz.results143,go_sem,CR6,FR6,LR6,CD6,FD6,LD6];try rfl) rfl ?_
   exact ⟨_,rfl,by exact updT,by exact curT,_,KrDisk.of (OwK.kr (gK.kp kpT)) (OwW.kr (gA.kp kpT))⟩
  ·
   go_wp2_with fail
   refine (l1From_c (cU B) (-1) 1 oM oM oM).mono ?_
   rintro e w4 ⟨_,rfl,X4,hc4,x,rfl,px,qx⟩
   have P4:Kp w.heap.size boxTs w3 w4:=Kp.upd kpT X4 oM
   have gK:=gK.kp P4
   have gW:=gW.kp P4
   clear P4
   have hz4:=X4.sz
   have E4:Upd w w4 [g]:=X4.up
   have KR4:=KR3.upv X4
   have KD4:=KD3.upv X4
   clear X4
   clear CR3 FR3 LR3 CD3 FD3 LD3
   obtain ⟨CR4,FR4,LR4⟩:=KR4.cfl
   obtain ⟨CD4,FD4,LD4⟩:=KD4.cfl
   obtain ⟨N,hN⟩:∃ N:Nat,60 + x = (N:Int):=⟨(60 + x).toNat,by omega⟩
   have hN2:N ≤ 100:=by omega
   have hmk:=fun W => run_make (P:=Tryz.prog) W 55 179 j0 _ Tryz.underlying55 hj jz0 .i64 .i64 N N oM oM (by rw [jz2];omega) oM
   simp only [Int.toNat_natCast] at hmk
   go_wp2_with fail
   clear hmk
   skip
   refine bodyPost_ret (by simp [results,Tryz.results143,go_sem,CR4,FR4,LR4,CD4,FD4,LD4];try rfl) rfl ?_
   exact ⟨_,rfl,by exact updT,by exact curT,_,KrDisk.of (OwK.kr (gK.kp kpT)) (OwW.kr (OwW.mono9 (OwW.made (W0:=w4) N oM (by simp only [World.size_setCell])) zT))⟩
  ·
   go_wp2_with fail
   refine (l1Below_c (cU B) 2).mono ?_
   rintro e w4 ⟨_,rfl,X4,hc4,x,rfl,px,qx,rx⟩
   have P4:Kp w.heap.size boxTs w3 w4:=Kp.upd kpT X4 oM
   have gK:=gK.kp P4
   have gW:=gW.kp P4
   clear P4
   have hz4:=X4.sz
   have E4:Upd w w4 [g]:=X4.up
   have KR4:=KR3.upv X4
   have KD4:=KD3.upv X4
   clear X4
   clear CR3 FR3 LR3 CD3 FD3 LD3
   obtain ⟨CR4,FR4,LR4⟩:=KR4.cfl
   obtain ⟨CD4,FD4,LD4⟩:=KD4.cfl
   have qx:=qx dC;clear rx
   obtain ⟨N,hN⟩:∃ N:Nat,40 + x = (N:Int):=⟨(40 + x).toNat,by omega⟩
   have hN2:N ≤ 100:=by omega
   have hmk:=fun W => run_make (P:=Tryz.prog) W 54 79 i0 _ Tryz.underlying54 hi iz0 .i64 .i64 N N oM oM (by rw [iz2];omega) oM
   simp only [Int.toNat_natCast] at hmk
   go_wp2_with fail
   clear hmk
   skip
   refine bodyPost_ret (by simp [results,Tryz.results143,go_sem,CR4,FR4,LR4,CD4,FD4,LD4];try rfl) rfl ?_
   exact ⟨_,rfl,by exact updT,by exact curT,_,KrDisk.of (OwK.kr (OwK.mono9 (OwK.made (W0:=w4) N oM (by simp only [World.size_setCell])) zT)) (OwW.kr (gW.kp kpT))⟩
  have gT:=KrK.tail gK.kr h1n
  by_cases hk1:kd0 = 1
  ·
   have h11:nd0 = 1:=by omega
   subst hk1;subst h11
   simp only [Go.sliced,if_true,Nat.sub_self] at gT
   go_wp2_with fail
   refine bodyPost_ret (by simp [results,Tryz.results143,go_sem,CR3,FR3,LR3,CD3,FD3,LD3];try rfl) rfl ?_
   exact ⟨_,rfl,by exact updT,by exact curT,_,KrDisk.of (gT.kp kpT) (OwW.kr (gW.kp kpT))⟩
  simp only [Go.sliced,if_neg hk1,Nat.one_mul,Nat.mul_one] at gT
  go_wp2_with fail
  refine bodyPost_ret (by simp [results,Tryz.results143,go_sem,CR3,FR3,LR3,CD3,FD3,LD3];try rfl) rfl ?_
  exact ⟨_,rfl,by exact updT,by exact curT,_,KrDisk.of (gT.kp kpT) (OwW.kr (gW.kp kpT))⟩
 go_wp2_with fail
 refine bodyPost_ret (by simp [results,Tryz.results143,go_sem,CR2,FR2,LR2,CD2,FD2,LD2];try rfl) rfl ?_
 exact ⟨_,rfl,by exact updT,by exact curT,_,KrDisk.of (OwK.kr (gK.kp kpT)) (OwW.kr (gW.kp kpT))⟩
end Go.Proofs.YtcnioiieiebodaaGreat
namespace Go.G8
open Go.RowKit
theorem feet_mem {v s:Value} {ss:List Value} {f:Nat} (h:s ∈ ss) (hf:f ∈ feet [s]):f ∈ feet (v :: ss):=by
 simp only [feet,List.mem_filterMap] at hf ⊢
 obtain ⟨x,hx,hf⟩:=hf
 simp at hx;subst hx
 exact ⟨x,List.mem_cons_of_mem _ h,hf⟩
theorem feet_one {s:Value} {f:Nat} (hf:f ∈ feet [s]):s.ownBlock = some f:=by
 simp only [feet,List.mem_filterMap] at hf
 obtain ⟨x,hx,hf⟩:=hf
 simp at hx;subst hx
 exact hf
end Go.G8
namespace Go.Proofs.YtcnioiieiebodaaGreat
open Go.RowKit Go.G8
theorem l18DrawAnyShelf_c {B:Nat} {w:World} {g:Nat} (h:Cur B w g):Calls Tryz.prog 101 #[.pointer (some ⟨g,0,none⟩)] w (Dr B w g fun v w' => ∃ d:DDisk,KrDisk w.heap.size w' v d):=by
 obtain ⟨j0,hj,jz0,jz1,jz2⟩:=info_parts info_Write
 have hc0:=h;have E0:Upd w w [g]:=Upd.refl _ _
 have hg0:=h.lt
 go_enter Tryz.func101,Tryz.ntmps101
 go_wp2_with fail
 refine (l18DrawShelf_c (cU B)).mono ?_
 rintro e w1 ⟨_,rfl,X1,hc1,dd,gD0,hsh⟩
 have hz1:=X1.sz
 have E1:Upd w w1 [g]:=X1.up
 have KR1:Blk w1 w.heap.size 57 #[.slice none 0 0,.slice none 0 0]:=bU X1
 clear X1
 obtain ⟨CR1,FR1,LR1⟩:=KR1.cfl
 obtain ⟨ad0,nd0,kd0,ad1,nd1,kd1,rfl⟩:=gD0.rd.shape
 obtain ⟨gK,gW⟩:=gD0.ow2;clear gD0
 replace gK:=gK.mono9 (B':=w.heap.size) zT
 replace gW:=gW.mono9 (B':=w.heap.size) zT
 have hKl:=gK.len;have hKc:=gK.cap;have h8:=(shelf_len hsh).2;clear hsh
 have h1n:1 ≤ nd0:=by omega
 have h40:nd0 ≤ 8:=by omega
 have HKl:=Lib.hid hKl;have H8:=Lib.hid h8;clear hKl h8
 go_wp2_with fail
 refine (l1Once_c (cU B) 6).mono ?_
 rintro e w2 ⟨_,rfl,X2,hc2,b1,rfl⟩
 have P2:Kp w.heap.size boxTs w1 w2:=Kp.upd kpT X2 oM
 have gK:=gK.kp P2
 have gW:=gW.kp P2
 clear P2
 have hz2:=X2.sz
 have E2:Upd w w2 [g]:=X2.up
 have KR2:=KR1.upv X2
 have KD2:Blk w2 w1.heap.size 57 #[.slice ad0 nd0 kd0,.slice ad1 nd1 kd1]:=bU X2
 clear X2
 clear CR1 FR1 LR1
 obtain ⟨CR2,FR2,LR2⟩:=KR2.cfl
 obtain ⟨CD2,FD2,LD2⟩:=KD2.cfl
 cases b1
 rotate_left
 ·
  go_wp2_with fail
  refine (l1Below_c (cU B) 4).mono ?_
  rintro e w3 ⟨_,rfl,X3,hc3,m,rfl,pm,qm,rm⟩
  have P3:Kp w.heap.size boxTs w2 w3:=Kp.upd kpT X3 oM
  have gK:=gK.kp P3
  have gW:=gW.kp P3
  clear P3
  have hz3:=X3.sz
  have E3:Upd w w3 [g]:=X3.up
  have KR3:=KR2.upv X3
  have KD3:=KD2.upv X3
  clear X3
  clear CR2 FR2 LR2 CD2 FD2 LD2
  obtain ⟨CR3,FR3,LR3⟩:=KR3.cfl
  obtain ⟨CD3,FD3,LD3⟩:=KD3.cfl
  have qm:=qm dC;clear rm
  obtain rfl | rfl | rfl | rfl:m = 0 ∨ m = 1 ∨ m = 2 ∨ m = 3:=by omega
  ·
   have gT:=KrK.tail gK.kr h1n
   by_cases hk1:kd0 = 1
   ·
    have h11:nd0 = 1:=by omega
    subst hk1;subst h11
    simp only [Go.sliced,if_true,Nat.sub_self] at gT
    go_wp2_with fail
    refine bodyPost_ret (by simp [results,Tryz.results101,go_sem,CR3,FR3,LR3,CD3,FD3,LD3];try rfl) rfl ?_
    exact ⟨_,rfl,by exact updT,by exact curT,_,KrDisk.of (gT.kp kpT) (OwW.kr (gW.kp kpT))⟩
   simp only [Go.sliced,if_neg hk1,Nat.one_mul,Nat.mul_one] at gT
   go_wp2_with fail
   refine bodyPost_ret (by simp [results,Tryz.results101,go_sem,CR3,FR3,LR3,CD3,FD3,LD3];try rfl) rfl ?_
   exact ⟨_,rfl,by exact updT,by exact curT,_,KrDisk.of (gT.kp kpT) (OwW.kr (gW.kp kpT))⟩
  ·
   obtain ⟨ssO,hO⟩:=gK
   replace hO:OwKs w.heap.size w3 (.slice ad0 nd0 kd0) dd.Kept ssO:=hO
   have hll:(nestInt64S dd.Kept).length = dd.Kept.length:=by simp [nestInt64S]
   have hpos:0 < (nestInt64S dd.Kept).length:=by have:=HKl.out;omega
   obtain ⟨X,cp0,_,eX,_,_,hXB,_,_⟩:=OwnNs.open_ hO hpos
   injection eX with e1 e2 e3;subst e1;clear e2 e3
   go_wp2_with fail
   refine (l1Below_c (cU B) _).mono ?_
   rintro e w4 ⟨_,rfl,X4,hc4,x,rfl,px,qx,rx⟩
   have P4:Kp w.heap.size boxTs w3 w4:=Kp.upd kpT X4 oM
   have hO:=hO.kp P4
   have gW:=gW.kp P4
   clear P4
   have hz4:=X4.sz
   have E4:Upd w w4 [g]:=X4.up
   have KR4:=KR3.upv X4
   have KD4:Blk w4 w1.heap.size 57 #[.slice (some ⟨X,0,none⟩) nd0 kd0,.slice ad1 nd1 kd1]:=bU X4
   clear X4
   clear CR3 FR3 LR3 CD3 FD3 LD3
   obtain ⟨CR4,FR4,LR4⟩:=KR4.cfl
   obtain ⟨CD4,FD4,LD4⟩:=KD4.cfl
   have qx:=qx oM;clear rx
   obtain ⟨q,rfl⟩:=Int.eq_ofNat_of_zero_le px
   have hqn:q < nd0:=by omega
   have hqn2:(q:Int) < (nd0:Int):=by omega
   have hf:=OwnNs.foot hO
   go_wp2_with fail
   refine wp_region_held_drew (S:=fun w' => Upd w w' [g] ∧ Cur B w' g ∧ Blk w' w1.heap.size 57 #[.slice (some ⟨X,0,none⟩) nd0 kd0,.slice ad1 nd1 kd1]) (by kernel_rfl) (by (try dsimp only);exact ⟨(by exact updT),(by exact curT),bC⟩) (fun hHeld => ?_)
   refine wt 0 ?_
   (try simp only [redA,Act.put])
   refine wtq 1 (fun _ h => h.2.2.cell) ?_
   (try simp only [redA,Act.put])
   refine wt 2 ?_
   (try simp only [redA,Act.put])
   refine wt 3 ?_
   (try simp only [redA,Act.put])
   refine wr1 4 fun Kz hKz => ?_
   (try simp only [redA])
   have hbW:w4.heap.size ≤ w4.heap.size:=by omega
   go_simp
   go_at_call 142
   refine (l1DrawAny_c (cU B)).mono ?_
   rintro e w5 ⟨_,rfl,X5,hc5,rw,Oq9,hrw⟩
   have P5:Kp w.heap.size boxTs w4 w5:=Kp.upd kpT X5 oM
   have hO:=hO.kp P5
   have gW:=gW.kp P5
   clear P5
   have hz5:=X5.sz
   have E5:Upd w w5 [g]:=X5.up
   have KR5:=KR4.upv X5
   have KD5:=KD4.upv X5
   clear X5
   clear CR4 FR4 LR4 CD4 FD4 LD4
   obtain ⟨CR5,FR5,LR5⟩:=KR5.cfl
   obtain ⟨CD5,FD5,LD5⟩:=KD5.cfl
   obtain ⟨aq,nq,kq,rfl⟩:=Oq9.shape
   replace Oq9:OwnI w4.heap.size 2 1 w5 (.slice aq nq kq) rw:=OwnI.mono Oq9 zT
   obtain ⟨X9,_,cur9,eX,_,_,_,hKX,hel⟩:=OwnNs.open_ hO hpos
   injection eX with e1 e2 e3;injection e1 with e1;injection e1 with e1;subst e1;clear e2 e3
   have hXD:X ≠ w1.heap.size:=fun e => (by have KD9:=KD5;rw [← e] at KD9;exact absurd (Blk.same hKX KD9) dC)
   have hXD2:w1.heap.size ≠ X:=fun e => hXD e.symm
   have hXR:X ≠ w.heap.size:=fun e => (by have KR9:=KR5;rw [← e] at KR9;exact absurd (Blk.same hKX KR9) dC)
   have hXR2:w.heap.size ≠ X:=fun e => hXR e.symm
   have FX9:=hKX.frozen;have LX9:=hKX.lt;have CX9:=hKX.cell
   obtain ⟨rr,hrr⟩:∃ r,(nestInt64S dd.Kept)[q]? = some r:=⟨_,List.getElem?_eq_getElem (by have:=HKl.out;omega)⟩
   have h21:ssO.length = (nestInt64S dd.Kept).length:=hO.2.1
   obtain ⟨u9,hu9⟩:∃ u,ssO[q]? = some u:=⟨_,List.getElem?_eq_getElem (by have:=HKl.out;omega)⟩
   have hcq:=(hel q rr u9 hrr hu9).2;simp only [Nat.zero_add,Nat.mul_one,Nat.add_zero] at hcq;clear hel
   have hr1:rr.1 = []:=by have:=List.mem_of_getElem? hrr;simp [nestInt64S] at this;obtain ⟨_,_,rfl⟩:=this;rfl
   have hS:=OwnNs.set_slice hO hrr (OwnI.mono Oq9 oM) (fun i s f hne hs hf1 hf2 => by have h1:=hf f (feet_mem (List.mem_of_getElem? hs) hf1);have h2:=Own.lt Oq9 (feet_one hf2);omega) (fun hf2 => by have h1:=hf X (by simp [feet,Value.ownBlock]);have h2:=Own.lt Oq9 (feet_one hf2);omega)
   simp only [Nat.zero_add,Nat.mul_one,Nat.add_zero,hr1] at hS
   have gA:OwK w.heap.size (w5.setCell ⟨X,q,none⟩ (.slice aq nq kq)) (.slice (some ⟨X,0,none⟩) nd0 kd0) (dd.Kept.set q rw):=⟨_,by simp only [nestI_set];exact hS⟩
   have gW2:OwW w.heap.size (w5.setCell ⟨X,q,none⟩ (.slice aq nq kq)) (.slice ad1 nd1 kd1) dd.Wait:=(let ⟨ss9,h9⟩:=gW;⟨ss9,OwnNs.box h9 hKX dC dC _ _⟩)
   clear hS
   refine hKz.o3 fun hHeld => ?_
   clear hKz Kz
   (try simp only [redA,Act.put])
   refine wt 5 ?_
   (try simp only [redA,Act.put])
   refine wr1 6 fun Kz hKz => ?_
   (try simp only [redA])
   go_simp
   refine hKz.o3 fun hHeld => ?_
   clear hKz Kz
   (try simp only [redA,Act.put])
   refine wpAnyH_done (by kernel_rfl) ?_ _
   go_wp2_with fail
   refine bodyPost_ret (by simp [results,Tryz.results101,go_sem,CR5,FR5,LR5,CD5,FD5,LD5];try rfl) rfl ?_
   exact ⟨_,rfl,by exact updT,by exact curT,_,KrDisk.of (OwK.kr (gA.kp kpT)) (OwW.kr (gW2.kp kpT))⟩
  ·
   go_wp2_with fail
   refine (l1From_c (cU B) (-3) 1 oM oM oM).mono ?_
   rintro e w4 ⟨_,rfl,X4,hc4,x,rfl,px,qx⟩
   have P4:Kp w.heap.size boxTs w3 w4:=Kp.upd kpT X4 oM
   have gK:=gK.kp P4
   have gW:=gW.kp P4
   clear P4
   have hz4:=X4.sz
   have E4:Upd w w4 [g]:=X4.up
   have KR4:=KR3.upv X4
   have KD4:=KD3.upv X4
   clear X4
   clear CR3 FR3 LR3 CD3 FD3 LD3
   obtain ⟨CR4,FR4,LR4⟩:=KR4.cfl
   obtain ⟨CD4,FD4,LD4⟩:=KD4.cfl
   obtain ⟨N,hN⟩:∃ N:Nat,60 + x = (N:Int):=⟨(60 + x).toNat,by omega⟩
   have hN2:N ≤ 100:=by omega
   have hmk:=fun W => run_make (P:=Tryz.prog) W 55 179 j0 _ Tryz.underlying55 hj jz0 .i64 .i64 N N oM oM (by rw [jz2];omega) oM
   simp only [Int.toNat_natCast] at hmk
   go_wp2_with fail
   clear hmk
   skip
   refine bodyPost_ret (by simp [results,Tryz.results101,go_sem,CR4,FR4,LR4,CD4,FD4,LD4];try rfl) rfl ?_
   exact ⟨_,rfl,by exact updT,by exact curT,_,KrDisk.of (OwK.kr (gK.kp kpT)) (OwW.kr (OwW.mono9 (OwW.made (W0:=w4) N oM (by simp only [World.size_setCell])) zT))⟩
  go_wp2_with fail
  refine (l3DrawAny_c (cU B)).mono ?_
  rintro e w4 ⟨_,rfl,X4,hc4,d3,g3⟩
  have P4:Kp w.heap.size boxTs w3 w4:=Kp.upd kpT X4 oM
  have gK:=gK.kp P4
  have gW:=gW.kp P4
  clear P4
  have hz4:=X4.sz
  have E4:Upd w w4 [g]:=X4.up
  have KR4:=KR3.upv X4
  have KD4:=KD3.upv X4
  clear X4
  clear CR3 FR3 LR3 CD3 FD3 LD3
  obtain ⟨CR4,FR4,LR4⟩:=KR4.cfl
  obtain ⟨CD4,FD4,LD4⟩:=KD4.cfl
  obtain ⟨ab0,nb0,kb0,ab1,nb1,kb1,rfl⟩:=g3.rd.shape
  replace g3:=g3.mono9 (B':=w.heap.size) zT
  go_wp2_with fail
  refine bodyPost_ret (by simp [results,Tryz.results101,go_sem,CR4,FR4,LR4,CD4,FD4,LD4];try rfl) rfl ?_
  exact ⟨_,rfl,by exact updT,by exact curT,_,g3.kp kpT⟩
 go_wp2_with fail
 refine bodyPost_ret (by simp [results,Tryz.results101,go_sem,CR2,FR2,LR2,CD2,FD2,LD2];try rfl) rfl ?_
 exact ⟨_,rfl,by exact updT,by exact curT,_,KrDisk.of (OwK.kr (gK.kp kpT)) (OwW.kr (gW.kp kpT))⟩
end Go.Proofs.YtcnioiieiebodaaGreat
