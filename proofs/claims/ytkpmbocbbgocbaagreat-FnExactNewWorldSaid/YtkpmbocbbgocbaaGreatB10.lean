/- WGa WFa WFb. -/
import Derived.Test.YtkpmbocbbgocbaaGreatGa
import Derived.Test.YtkpmbocbbgocbaaGreatB8
import Derived.Test.YtkpmbocbbgocbaaGreatB9
import Derived.Test.YtkpmbocbbgocbaaGreatGd
import Derived.Test.YtkpmbocbbgocbaaGreatGj
set_option linter.unusedSimpArgs false
set_option linter.unusedVariables false
set_option maxHeartbeats 8000000
set_option maxRecDepth 100000
namespace Go.G8
open Go.RowKit
open Go.Proofs.YtkpmbocbbgocbaaGreat
theorem pairsOk_nil:pairsOk []=true:=pairsOk_true (fun i h=>by simp at h)
theorem jobsOk_nil:jobsOk []=true:=jobsOk_true ⟨by simp,fun i h=>by simp at h⟩
theorem eqNil_no {α:Type} {l:List α} {p:List α→Bool} (hn:p []=true) (h:p l=false):eqB l []=false:=eqB_false (fun e=>by rw [e,hn] at h;cases h)
theorem eqNil_cons {α:Type} (x:α) (l:List α):eqB (x :: l) []=false:=eqB_false (fun e=>by cases e)
end Go.G8
namespace Go.Proofs.YtkpmbocbbgocbaaGreat
open Go.RowKit Go.G8
theorem sSamePairs0_c (w:World) (v u:Value) (l:List DPair) (h:Ints 2 w v (flPair l)) (k:Ints 2 w u (flPair [])) :
  Calls Tryz.prog 388 #[v,u] w (RetV w (.bool (eqB l []))):=by
 obtain⟨b,kb,rfl,hkb,hkm,-⟩:=k.recs (f:=DPair.ints) (fun _=>rfl) dC
 obtain⟨a,ka,rfl,hka,ham,-⟩:=h.recs (f:=DPair.ints) (fun _=>rfl) dC
 unfold maxLen at hkm ham
 go_enter Tryz.func388,Tryz.ntmps388
 have X0:Ext w w:=Ext.refl _
 go_wp2_with (fail)
 refine (sPairsOk_c _ _ l h).mono ?_
 rintro e w1 ⟨rfl,hx1⟩
 have X1:Ext w w1:=hx1;clear hx1
 cases b1:pairsOk l
 ·
  go_wp2_with (fail)
  go_ret
  exact⟨by rw [show eqB l []=false from by exact eqNil_no pairsOk_nil b1];try rfl,by exact extT⟩
 go_wp2_with (fail)
 refine (sPairsOk_c _ _ [] (k.ext extT)).mono ?_
 rintro e w2 ⟨rfl,hx2⟩
 have X2:=X1.trans hx2;clear hx2
 rw [pairsOk_nil]
 simp only [List.length_nil] at hkb ⊢
 cases l with
 | cons x l =>
  simp only [List.length_cons] at hka ham ⊢
  have e1:(((l.length+1:Nat):Int) != 0)=true:=by simp;omega
  have e2:decide (l.length+1=0)=false:=by simp
  go_wp2_with fail
  go_ret
  exact⟨by rw [eqNil_cons];try rfl,by exact extT⟩
 | nil =>
  simp only [List.length_nil] at hka ham ⊢
  go_wp2_with fail
  go_loopw [5] (fun i wr=>i=.int .i64 0∧Ext w wr) (fun _ _=>0)
  case atStart=>exact⟨rfl,by exact extT⟩
  case round =>
   obtain⟨rfl,he⟩:=hrel
   go_wp2_with fail
   go_ret
   exact⟨by rw [eqB_true rfl];try rfl,he⟩
theorem sSameJobs0_c (w:World) (v u:Value) (l:List DJob) (h:Ints 5 w v (flJob l)) (k:Ints 5 w u (flJob [])) :
  Calls Tryz.prog 389 #[v,u] w (RetV w (.bool (eqB l []))):=by
 obtain⟨b,kb,rfl,hkb,hkm,-⟩:=k.recs (f:=DJob.ints) (fun _=>rfl) dC
 obtain⟨a,ka,rfl,hka,ham,-⟩:=h.recs (f:=DJob.ints) (fun _=>rfl) dC
 unfold maxLen at hkm ham
 go_enter Tryz.func389,Tryz.ntmps389
 have X0:Ext w w:=Ext.refl _
 go_wp2_with (fail)
 refine (sJobsOk_c _ _ l h).mono ?_
 rintro e w1 ⟨rfl,hx1⟩
 have X1:Ext w w1:=hx1;clear hx1
 cases b1:jobsOk l
 ·
  go_wp2_with (fail)
  go_ret
  exact⟨by rw [show eqB l []=false from by exact eqNil_no jobsOk_nil b1];try rfl,by exact extT⟩
 go_wp2_with (fail)
 refine (sJobsOk_c _ _ [] (k.ext extT)).mono ?_
 rintro e w2 ⟨rfl,hx2⟩
 have X2:=X1.trans hx2;clear hx2
 rw [jobsOk_nil]
 simp only [List.length_nil] at hkb ⊢
 cases l with
 | cons x l =>
  simp only [List.length_cons] at hka ham ⊢
  have e1:(((l.length+1:Nat):Int) != 0)=true:=by simp;omega
  have e2:decide (l.length+1=0)=false:=by simp
  go_wp2_with fail
  go_ret
  exact⟨by rw [eqNil_cons];try rfl,by exact extT⟩
 | nil =>
  simp only [List.length_nil] at hka ham ⊢
  go_wp2_with fail
  go_loopw [5] (fun i wr=>i=.int .i64 0∧Ext w wr) (fun _ _=>0)
  case atStart=>exact⟨rfl,by exact extT⟩
  case round =>
   obtain⟨rfl,he⟩:=hrel
   go_wp2_with fail
   go_ret
   exact⟨by rw [eqB_true rfl];try rfl,he⟩
end Go.Proofs.YtkpmbocbbgocbaaGreat
namespace Go.G8
open Go.RowKit
open Go.Proofs.YtkpmbocbbgocbaaGreat
theorem stateZ_ok:stateOk stateZ=true:=by
 unfold stateOk stateZ
 simp only [Bool.and_eq_true]
 exact⟨by decide,by decide,pairsOk_nil,jobsOk_nil,by decide,by simp⟩
theorem stZ_no {s:DState} (h:stateOk s=false):eqB s stateZ=false:=eqB_false (fun e=>by rw [e,stateZ_ok] at h;cases h)
theorem stateB (s:DState):eqB s stateZ=(decide (s.Index=0) && (decide (s.Time=0) && (eqB s.Pairs [] && (eqB s.Jobs [] && (decide (s.Lease.Holder=0) && (decide (s.Lease.Epoch=0) && decide (s.Lease.Until=0))))))):=by
 refine eqB_and ?_
 rcases s with ⟨a,b,c,d,⟨e,f,g⟩⟩
 simp [stateZ,Bool.and_eq_true,eqB_iff]
end Go.G8
namespace Go.Proofs.YtkpmbocbbgocbaaGreat
open Go.RowKit Go.G8
theorem sSameState0_c {w:World} {v u2 u3:Value} {s:DState} (h:RdState w v s) (q2:Ints 2 w u2 (flPair [])) (q3:Ints 5 w u3 (flJob [])) :
  Calls Tryz.prog 318 #[v,.agg #[.int .i64 0,.int .i64 0,u2,u3,.int .i64 0,.int .i64 0,.int .i64 0]] w (RetV w (.bool (eqB s stateZ))):=by
 have HS:=Lib.hid h
 obtain⟨t2,t3,rfl,h2,h3⟩:=h
 obtain⟨a2,n2,k2,rfl⟩:=h2.shape
 obtain⟨b2,m2,j2,rfl⟩:=q2.shape
 obtain⟨a3,n3,k3,rfl⟩:=h3.shape
 obtain⟨b3,m3,j3,rfl⟩:=q3.shape
 have HM:=Lib.hid (stateB s)
 obtain⟨W0,hW0⟩:∃ W0,W0=((w.alloc (.cells #[.int .i64 s.Index,.int .i64 s.Time,.slice a2 n2 k2,.slice a3 n3 k3,.int .i64 s.Lease.Holder,.int .i64 s.Lease.Epoch,.int .i64 s.Lease.Until] 86)).alloc (.cells #[.int .i64 0,.int .i64 0,.slice b2 m2 j2,.slice b3 m3 j3,.int .i64 0,.int .i64 0,.int .i64 0] 86)):=⟨_,rfl⟩
 have E0:Ext w W0:=by rw [hW0];exact extT
 have KA:Blk W0 (w.heap.size) 86 #[.int .i64 s.Index,.int .i64 s.Time,.slice a2 n2 k2,.slice a3 n3 k3,.int .i64 s.Lease.Holder,.int .i64 s.Lease.Epoch,.int .i64 s.Lease.Until]:=by rw [hW0];exact (Blk.new _ _ _).alloc _
 have KB:Blk W0 (w.heap.size+1) 86 #[.int .i64 0,.int .i64 0,.slice b2 m2 j2,.slice b3 m3 j3,.int .i64 0,.int .i64 0,.int .i64 0]:=by rw [hW0];exact Blk.new2 _ _ _ _
 go_enter Tryz.func318,Tryz.ntmps318
 go_upto_region 1 with (fail)
 rw [← hW0]
 clear hW0
 have X0:Ext w W0:=E0
 obtain⟨CA,FA,LA⟩:=KA.cfl
 obtain⟨CB,FB,LB⟩:=KB.cfl
 go_wp2_with (fail)
 refine (sStateOk_k (HS.out.ext extT)).mono ?_
 rintro e w1 ⟨rfl,hx1⟩
 have KA:=KA.ext hx1;clear CA FA LA
 have KB:=KB.ext hx1;clear CB FB LB
 have X1:=X0.trans hx1;clear hx1
 obtain⟨CA,FA,LA⟩:=KA.cfl
 obtain⟨CB,FB,LB⟩:=KB.cfl
 cases b1:stateOk s
 ·
  go_wp2_with (fail)
  go_ret
  exact⟨by rw [show eqB s stateZ=false from by exact stZ_no b1];try rfl,by exact extT⟩
 go_wp2_with (fail)
 refine (sStateOk_k (s:=stateZ) ⟨_,_,rfl,q2.ext extT,q3.ext extT⟩).mono ?_
 rintro e w2 ⟨rfl,hx2⟩
 have KA:=KA.ext hx2;clear CA FA LA
 have KB:=KB.ext hx2;clear CB FB LB
 have X2:=X1.trans hx2;clear hx2
 obtain⟨CA,FA,LA⟩:=KA.cfl
 obtain⟨CB,FB,LB⟩:=KB.cfl
 rw [stateZ_ok]
 have B1:=Lib.hid b1;clear b1
 by_cases e0:s.Index=0
 rotate_left
 ·
  have e01:(s.Index == 0)=false:=by simpa using e0
  have e02:decide (s.Index=0)=false:=by simpa using e0
  have He0:=Lib.hid e0;clear e0
  go_wp2_with (fail)
  go_ret
  exact⟨by rw [show eqB s stateZ=false from by rw [HM.out];simp [He0.out]];try rfl,by exact extT⟩
 have e01:(s.Index == 0)=true:=by simpa using e0
 have e02:decide (s.Index=0)=true:=by simpa using e0
 have He0:=Lib.hid e0;clear e0
 by_cases e1:s.Time=0
 rotate_left
 ·
  have e11:(s.Time == 0)=false:=by simpa using e1
  have e12:decide (s.Time=0)=false:=by simpa using e1
  have He1:=Lib.hid e1;clear e1
  go_wp2_with (fail)
  go_ret
  exact⟨by rw [show eqB s stateZ=false from by rw [HM.out];simp [He1.out]];try rfl,by exact extT⟩
 have e11:(s.Time == 0)=true:=by simpa using e1
 have e12:decide (s.Time=0)=true:=by simpa using e1
 have He1:=Lib.hid e1;clear e1
 go_wp2_with (fail)
 refine (sSamePairs0_c _ _ _ s.Pairs (h2.ext extT) (q2.ext extT)).mono ?_
 rintro e w3 ⟨rfl,hx3⟩
 have KA:=KA.ext hx3;clear CA FA LA
 have KB:=KB.ext hx3;clear CB FB LB
 have X3:=X2.trans hx3;clear hx3
 obtain⟨CA,FA,LA⟩:=KA.cfl
 obtain⟨CB,FB,LB⟩:=KB.cfl
 cases p2:eqB s.Pairs ([]:List DPair)
 ·
  go_wp2_with (fail)
  go_ret
  exact⟨by rw [show eqB s stateZ=false from by rw [HM.out];simp [p2]];try rfl,by exact extT⟩
 have P2:=Lib.hid p2;clear p2
 go_wp2_with (fail)
 refine (sSameJobs0_c _ _ _ s.Jobs (h3.ext extT) (q3.ext extT)).mono ?_
 rintro e w4 ⟨rfl,hx4⟩
 have KA:=KA.ext hx4;clear CA FA LA
 have KB:=KB.ext hx4;clear CB FB LB
 have X4:=X3.trans hx4;clear hx4
 obtain⟨CA,FA,LA⟩:=KA.cfl
 obtain⟨CB,FB,LB⟩:=KB.cfl
 cases p3:eqB s.Jobs ([]:List DJob)
 ·
  go_wp2_with (fail)
  go_ret
  exact⟨by rw [show eqB s stateZ=false from by rw [HM.out];simp [p3]];try rfl,by exact extT⟩
 have P3:=Lib.hid p3;clear p3
 by_cases l0:s.Lease.Holder=0
 rotate_left
 ·
  have l01:(s.Lease.Holder == 0)=false:=by simpa using l0
  have l02:decide (s.Lease.Holder=0)=false:=by simpa using l0
  have Hl0:=Lib.hid l0;clear l0
  go_wp2_with (fail)
  go_ret
  exact⟨by rw [show eqB s stateZ=false from by rw [HM.out];simp [Hl0.out]];try rfl,by exact extT⟩
 have l01:(s.Lease.Holder == 0)=true:=by simpa using l0
 have l02:decide (s.Lease.Holder=0)=true:=by simpa using l0
 have Hl0:=Lib.hid l0;clear l0
 by_cases l1:s.Lease.Epoch=0
 rotate_left
 ·
  have l11:(s.Lease.Epoch == 0)=false:=by simpa using l1
  have l12:decide (s.Lease.Epoch=0)=false:=by simpa using l1
  have Hl1:=Lib.hid l1;clear l1
  go_wp2_with (fail)
  go_ret
  exact⟨by rw [show eqB s stateZ=false from by rw [HM.out];simp [Hl1.out]];try rfl,by exact extT⟩
 have l11:(s.Lease.Epoch == 0)=true:=by simpa using l1
 have l12:decide (s.Lease.Epoch=0)=true:=by simpa using l1
 have Hl1:=Lib.hid l1;clear l1
 by_cases l2:s.Lease.Until=0
 rotate_left
 ·
  have l21:(s.Lease.Until == 0)=false:=by simpa using l2
  have l22:decide (s.Lease.Until=0)=false:=by simpa using l2
  have Hl2:=Lib.hid l2;clear l2
  go_wp2_with (fail)
  go_ret
  exact⟨by rw [show eqB s stateZ=false from by rw [HM.out];simp [Hl2.out]];try rfl,by exact extT⟩
 have l21:(s.Lease.Until == 0)=true:=by simpa using l2
 have l22:decide (s.Lease.Until=0)=true:=by simpa using l2
 have Hl2:=Lib.hid l2;clear l2
 go_wp2_with (fail)
 go_ret
 exact⟨by rw [show eqB s stateZ=true from by rw [HM.out,P2.out,P3.out];simp [He0.out,He1.out,Hl0.out,Hl1.out,Hl2.out]];try rfl,by exact extT⟩
end Go.Proofs.YtkpmbocbbgocbaaGreat
