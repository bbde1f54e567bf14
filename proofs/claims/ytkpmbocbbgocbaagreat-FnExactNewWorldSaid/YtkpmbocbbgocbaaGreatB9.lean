/- WEa EqDue EqPair EqJob EqEntry Eq WEb WEc WEd WEe. -/
import Derived.Test.YtkpmbocbbgocbaaGreatGv
import Derived.Test.YtkpmbocbbgocbaaGreatGa
import Derived.Test.YtkpmbocbbgocbaaGreatGe
import Derived.Test.YtkpmbocbbgocbaaGreatB8
import Derived.Test.YtkpmbocbbgocbaaGreatB4
import Derived.Test.YtkpmbocbbgocbaaGreatB5
import Derived.Test.YtkpmbocbbgocbaaGreatB6
import Derived.Test.YtkpmbocbbgocbaaGreatB1
import Derived.Test.YtkpmbocbbgocbaaGreatB0
set_option linter.unusedSimpArgs false
set_option linter.unusedVariables false
set_option maxHeartbeats 8000000
set_option maxRecDepth 100000
namespace Go.G8
open Go.RowKit
open Go.Proofs.YtkpmbocbbgocbaaGreat
theorem eqB_and {α:Type} {a b:α} {p:Bool} (h:a=b ↔ p=true):eqB a b=p:=by
 cases p
 ·
  exact eqB_false (fun e=>by have:=h.1 e;cases this)
 exact eqB_true (h.2 rfl)
theorem logZ_eq (n:DLogNode):eqB n (logZ n.Two)=(eqB n.Head headZ && (eqB n.Next headZ && (!n.More && (eqB n.Book (⟨0,0,[]⟩:DBook) && (eqB n.Seen ([]:List DMark) && (decide (n.Durable=0) && eqB n.Owe ([]:List DAck))))))):=by
 refine eqB_and ?_
 obtain⟨t,h,x,m,b,s,d,o⟩:=n
 simp [logZ,Bool.and_eq_true,eqB_iff]
theorem schedB (a:DSched) (i s:Int) (v:DView) (b:Bool) (o:DOp) (x:Int):eqB a (⟨i,s,v,b,o,x⟩:DSched)=(decide (a.Id=i) && (decide (a.Seq=s) && (eqB a.View v && (decide (a.Busy=b) && (eqB a.Op o && decide (a.Index=x)))))):=by
 refine eqB_and ?_
 obtain⟨a0,a1,a2,a3,a4,a5⟩:=a
 simp [Bool.and_eq_true,eqB_iff]
theorem wpList_load_midG {P:Program} {ops:Array Oper} {rest:List Oper} {op:Oper} {a:Act} {w:World} {Q:Exit→Act→World→Prop} (hw:Region.wanted op (yielded ops a.tmps)=true) (ty:TypeId) (x:Operand) (ho:op.op=.load ty x)
  (b o:Nat) (hx:a.eval x=.pointer (some ⟨b,o,none⟩)) (cs:List Value) (d:TypeDesc) (hc:w.rangeAt b o cs)
  (hu:P.underlying ty=some d) (hd:d.isRow=true) (hi:(P.info? ty).map (·.size)=some cs.length)
  (h:wpList P ops Q rest (a.put op.dst (.agg cs.toArray)) w):wpList P ops Q (op :: rest) a w :=
 wpList_step fun _ hK=>by rw [if_pos hw];exact wp_load_mid ty x ho b o hx cs d hc hu hd hi (hK _ _ h)
theorem newSched_of {i:Int} (h:i=2 ∨ i=3):newSched i=⟨i,0,⟨⟨0,0,0,0,0,[]⟩⟩,false,⟨0,0,0,0,0⟩,0⟩:=by
 rcases h with rfl|rfl <;> rfl
theorem fits_no {s:DSched} {i:Int} {u:Bool} (h:schedOkS s=false):schedFits s i u=false:=by unfold schedFits;rw [h];rfl
theorem fits_id {s:DSched} {i:Int} {u:Bool} (h:¬ s.Id=i):schedFits s i u=false:=by unfold schedFits;simp [h]
theorem fits_up {s:DSched} {i:Int} (k:schedOkS s=true) (h:s.Id=i):schedFits s i true=true:=by unfold schedFits;rw [k];simp [h]
theorem fits_down {s:DSched} {i:Int} (k:schedOkS s=true) (h:s.Id=i) (hid:i=2 ∨ i=3):schedFits s i false=eqB s ⟨i,0,⟨⟨0,0,0,0,0,[]⟩⟩,false,⟨0,0,0,0,0⟩,0⟩:=by unfold schedFits;rw [k,newSched_of hid];simp [h]
end Go.G8
namespace Go.Proofs.YtkpmbocbbgocbaaGreat
open Go.RowKit Go.G8
theorem l22SchedDown_k (w:World) {v:Value} {s:DSched} (h:RdSched w v s) :
  Calls Tryz.prog 213 #[v] w (RetV w (.bool (eqB s (⟨s.Id,0,⟨⟨0,0,0,0,0,[]⟩⟩,false,⟨0,0,0,0,0⟩,0⟩:DSched)))):=by
 obtain⟨t7,rfl,h7⟩:=h
 obtain⟨a1,k1,rfl,hc1,hm1,-⟩:=h7.recs (f:=DDue.ints) (fun _=>rfl) dC
 unfold maxLen at hm1
 obtain⟨n1,hn1⟩:∃ n,n=s.View.Jobs.Open.length:=⟨_,rfl⟩
 rw [← hn1] at hc1 ⊢
 have HN:=Lib.hid hn1;clear hn1 h7
 have HM:=Lib.hid (show eqB s (⟨s.Id,0,⟨⟨0,0,0,0,0,[]⟩⟩,false,⟨0,0,0,0,0⟩,0⟩:DSched)=_ from schedB s _ _ _ _ _ _)
 obtain⟨bz,hbz⟩:∃ b:Bool,s.Busy=b:=⟨_,rfl⟩
 rw [hbz]
 have HB:=Lib.hid hbz;clear hbz
 obtain⟨W0,hW0⟩:∃ W0,W0=(w.alloc (.cells #[.int .i64 s.Id,.int .i64 s.Seq,.int .i64 s.View.Jobs.Index,.int .i64 s.View.Jobs.Time,.int .i64 s.View.Jobs.Holder,.int .i64 s.View.Jobs.Epoch,.int .i64 s.View.Jobs.Until,.slice a1 n1 k1,.bool bz,.int .i64 s.Op.Kind,.int .i64 s.Op.A,.int .i64 s.Op.B,.int .i64 s.Op.C,.int .i64 s.Op.D,.int .i64 s.Index] 96)):=⟨_,rfl⟩
 have E0:Ext w W0:=by rw [hW0];exact extT
 have KA:Blk W0 (w.heap.size) 96 #[.int .i64 s.Id,.int .i64 s.Seq,.int .i64 s.View.Jobs.Index,.int .i64 s.View.Jobs.Time,.int .i64 s.View.Jobs.Holder,.int .i64 s.View.Jobs.Epoch,.int .i64 s.View.Jobs.Until,.slice a1 n1 k1,.bool bz,.int .i64 s.Op.Kind,.int .i64 s.Op.A,.int .i64 s.Op.B,.int .i64 s.Op.C,.int .i64 s.Op.D,.int .i64 s.Index]:=by rw [hW0];exact Blk.new _ _ _
 go_enter Tryz.func213,Tryz.ntmps213
 go_upto_region 1 with (fail)
 rw [← hW0]
 clear hW0
 have X0:Ext w W0:=E0
 obtain⟨CA,FA,LA⟩:=KA.cfl
 go_upto_region 2 with (fail)
 obtain⟨W1,hW1⟩:∃ W1,W1=W0.alloc (.cells #[.int .i64 s.View.Jobs.Index,.int .i64 s.View.Jobs.Time,.int .i64 s.View.Jobs.Holder,.int .i64 s.View.Jobs.Epoch,.int .i64 s.View.Jobs.Until,.slice a1 n1 k1] 91):=⟨_,rfl⟩
 have x1:Ext W0 W1:=by rw [hW1];exact extT
 have hz0:=KA.lt
 have KJ:Blk W1 W0.heap.size 91 #[.int .i64 s.View.Jobs.Index,.int .i64 s.View.Jobs.Time,.int .i64 s.View.Jobs.Holder,.int .i64 s.View.Jobs.Epoch,.int .i64 s.View.Jobs.Until,.slice a1 n1 k1]:=by rw [hW1];exact Blk.new _ _ _
 rw [← hW1];clear hW1
 have KA:=KA.ext x1;have X1:=E0.trans x1;clear CA FA LA x1
 obtain⟨CA,FA,LA⟩:=KA.cfl
 obtain⟨CJ,FJ,LJ⟩:=KJ.cfl
 by_cases e1:s.Seq=0
 rotate_left
 ·
  have e11:(s.Seq == 0)=false:=by simpa using e1
  have e12:decide (s.Seq=0)=false:=by simpa using e1
  have He1:=Lib.hid e1;clear e1
  go_wp2_with (fail)
  go_ret
  exact⟨by rw [show eqB s (⟨s.Id,0,⟨⟨0,0,0,0,0,[]⟩⟩,false,⟨0,0,0,0,0⟩,0⟩:DSched)=false from by rw [HM.out];simp [He1.out]];try rfl,by exact extT⟩
 have e11:(s.Seq == 0)=true:=by simpa using e1
 have e12:decide (s.Seq=0)=true:=by simpa using e1
 have He1:=Lib.hid e1;clear e1
 cases bz
 rotate_left
 ·
  go_wp2_with (fail)
  go_ret
  exact⟨by rw [show eqB s (⟨s.Id,0,⟨⟨0,0,0,0,0,[]⟩⟩,false,⟨0,0,0,0,0⟩,0⟩:DSched)=false from by rw [HM.out];simp [HB.out]];try rfl,by exact extT⟩
 by_cases o0:s.Op.Kind=0
 rotate_left
 ·
  have o01:(s.Op.Kind == 0)=false:=by simpa using o0
  have o02:decide (s.Op.Kind=0)=false:=by simpa using o0
  have Ho0:=Lib.hid o0;clear o0
  go_wp2_with (fail)
  go_ret
  exact⟨by rw [show eqB s (⟨s.Id,0,⟨⟨0,0,0,0,0,[]⟩⟩,false,⟨0,0,0,0,0⟩,0⟩:DSched)=false from by rw [HM.out];simp [show eqB s.Op (⟨0,0,0,0,0⟩:DOp)=false from eqB_false (fun e=>Ho0.out (by rw [e]))]];try rfl,by exact extT⟩
 have o01:(s.Op.Kind == 0)=true:=by simpa using o0
 have o02:decide (s.Op.Kind=0)=true:=by simpa using o0
 have Ho0:=Lib.hid o0;clear o0
 by_cases o1:s.Op.A=0
 rotate_left
 ·
  have o11:(s.Op.A == 0)=false:=by simpa using o1
  have o12:decide (s.Op.A=0)=false:=by simpa using o1
  have Ho1:=Lib.hid o1;clear o1
  go_wp2_with (fail)
  go_ret
  exact⟨by rw [show eqB s (⟨s.Id,0,⟨⟨0,0,0,0,0,[]⟩⟩,false,⟨0,0,0,0,0⟩,0⟩:DSched)=false from by rw [HM.out];simp [show eqB s.Op (⟨0,0,0,0,0⟩:DOp)=false from eqB_false (fun e=>Ho1.out (by rw [e]))]];try rfl,by exact extT⟩
 have o11:(s.Op.A == 0)=true:=by simpa using o1
 have o12:decide (s.Op.A=0)=true:=by simpa using o1
 have Ho1:=Lib.hid o1;clear o1
 by_cases o2:s.Op.B=0
 rotate_left
 ·
  have o21:(s.Op.B == 0)=false:=by simpa using o2
  have o22:decide (s.Op.B=0)=false:=by simpa using o2
  have Ho2:=Lib.hid o2;clear o2
  go_wp2_with (fail)
  go_ret
  exact⟨by rw [show eqB s (⟨s.Id,0,⟨⟨0,0,0,0,0,[]⟩⟩,false,⟨0,0,0,0,0⟩,0⟩:DSched)=false from by rw [HM.out];simp [show eqB s.Op (⟨0,0,0,0,0⟩:DOp)=false from eqB_false (fun e=>Ho2.out (by rw [e]))]];try rfl,by exact extT⟩
 have o21:(s.Op.B == 0)=true:=by simpa using o2
 have o22:decide (s.Op.B=0)=true:=by simpa using o2
 have Ho2:=Lib.hid o2;clear o2
 by_cases o3:s.Op.C=0
 rotate_left
 ·
  have o31:(s.Op.C == 0)=false:=by simpa using o3
  have o32:decide (s.Op.C=0)=false:=by simpa using o3
  have Ho3:=Lib.hid o3;clear o3
  go_wp2_with (fail)
  go_ret
  exact⟨by rw [show eqB s (⟨s.Id,0,⟨⟨0,0,0,0,0,[]⟩⟩,false,⟨0,0,0,0,0⟩,0⟩:DSched)=false from by rw [HM.out];simp [show eqB s.Op (⟨0,0,0,0,0⟩:DOp)=false from eqB_false (fun e=>Ho3.out (by rw [e]))]];try rfl,by exact extT⟩
 have o31:(s.Op.C == 0)=true:=by simpa using o3
 have o32:decide (s.Op.C=0)=true:=by simpa using o3
 have Ho3:=Lib.hid o3;clear o3
 by_cases o4:s.Op.D=0
 rotate_left
 ·
  have o41:(s.Op.D == 0)=false:=by simpa using o4
  have o42:decide (s.Op.D=0)=false:=by simpa using o4
  have Ho4:=Lib.hid o4;clear o4
  go_wp2_with (fail)
  go_ret
  exact⟨by rw [show eqB s (⟨s.Id,0,⟨⟨0,0,0,0,0,[]⟩⟩,false,⟨0,0,0,0,0⟩,0⟩:DSched)=false from by rw [HM.out];simp [show eqB s.Op (⟨0,0,0,0,0⟩:DOp)=false from eqB_false (fun e=>Ho4.out (by rw [e]))]];try rfl,by exact extT⟩
 have o41:(s.Op.D == 0)=true:=by simpa using o4
 have o42:decide (s.Op.D=0)=true:=by simpa using o4
 have Ho4:=Lib.hid o4;clear o4
 by_cases e9:s.Index=0
 rotate_left
 ·
  have e91:(s.Index == 0)=false:=by simpa using e9
  have e92:decide (s.Index=0)=false:=by simpa using e9
  have He9:=Lib.hid e9;clear e9
  go_wp2_with (fail)
  go_ret
  exact⟨by rw [show eqB s (⟨s.Id,0,⟨⟨0,0,0,0,0,[]⟩⟩,false,⟨0,0,0,0,0⟩,0⟩:DSched)=false from by rw [HM.out];simp [He9.out]];try rfl,by exact extT⟩
 have e91:(s.Index == 0)=true:=by simpa using e9
 have e92:decide (s.Index=0)=true:=by simpa using e9
 have He9:=Lib.hid e9;clear e9
 by_cases v0:s.View.Jobs.Index=0
 rotate_left
 ·
  have v01:(s.View.Jobs.Index == 0)=false:=by simpa using v0
  have v02:decide (s.View.Jobs.Index=0)=false:=by simpa using v0
  have Hv0:=Lib.hid v0;clear v0
  go_wp2_with (fail)
  go_ret
  exact⟨by rw [show eqB s (⟨s.Id,0,⟨⟨0,0,0,0,0,[]⟩⟩,false,⟨0,0,0,0,0⟩,0⟩:DSched)=false from by rw [HM.out];simp [show eqB s.View (⟨⟨0,0,0,0,0,[]⟩⟩:DView)=false from eqB_false (fun e=>Hv0.out (by rw [e]))]];try rfl,by exact extT⟩
 have v01:(s.View.Jobs.Index == 0)=true:=by simpa using v0
 have v02:decide (s.View.Jobs.Index=0)=true:=by simpa using v0
 have Hv0:=Lib.hid v0;clear v0
 by_cases v1:s.View.Jobs.Time=0
 rotate_left
 ·
  have v11:(s.View.Jobs.Time == 0)=false:=by simpa using v1
  have v12:decide (s.View.Jobs.Time=0)=false:=by simpa using v1
  have Hv1:=Lib.hid v1;clear v1
  go_wp2_with (fail)
  go_ret
  exact⟨by rw [show eqB s (⟨s.Id,0,⟨⟨0,0,0,0,0,[]⟩⟩,false,⟨0,0,0,0,0⟩,0⟩:DSched)=false from by rw [HM.out];simp [show eqB s.View (⟨⟨0,0,0,0,0,[]⟩⟩:DView)=false from eqB_false (fun e=>Hv1.out (by rw [e]))]];try rfl,by exact extT⟩
 have v11:(s.View.Jobs.Time == 0)=true:=by simpa using v1
 have v12:decide (s.View.Jobs.Time=0)=true:=by simpa using v1
 have Hv1:=Lib.hid v1;clear v1
 by_cases v2:s.View.Jobs.Holder=0
 rotate_left
 ·
  have v21:(s.View.Jobs.Holder == 0)=false:=by simpa using v2
  have v22:decide (s.View.Jobs.Holder=0)=false:=by simpa using v2
  have Hv2:=Lib.hid v2;clear v2
  go_wp2_with (fail)
  go_ret
  exact⟨by rw [show eqB s (⟨s.Id,0,⟨⟨0,0,0,0,0,[]⟩⟩,false,⟨0,0,0,0,0⟩,0⟩:DSched)=false from by rw [HM.out];simp [show eqB s.View (⟨⟨0,0,0,0,0,[]⟩⟩:DView)=false from eqB_false (fun e=>Hv2.out (by rw [e]))]];try rfl,by exact extT⟩
 have v21:(s.View.Jobs.Holder == 0)=true:=by simpa using v2
 have v22:decide (s.View.Jobs.Holder=0)=true:=by simpa using v2
 have Hv2:=Lib.hid v2;clear v2
 by_cases v3:s.View.Jobs.Epoch=0
 rotate_left
 ·
  have v31:(s.View.Jobs.Epoch == 0)=false:=by simpa using v3
  have v32:decide (s.View.Jobs.Epoch=0)=false:=by simpa using v3
  have Hv3:=Lib.hid v3;clear v3
  go_wp2_with (fail)
  go_ret
  exact⟨by rw [show eqB s (⟨s.Id,0,⟨⟨0,0,0,0,0,[]⟩⟩,false,⟨0,0,0,0,0⟩,0⟩:DSched)=false from by rw [HM.out];simp [show eqB s.View (⟨⟨0,0,0,0,0,[]⟩⟩:DView)=false from eqB_false (fun e=>Hv3.out (by rw [e]))]];try rfl,by exact extT⟩
 have v31:(s.View.Jobs.Epoch == 0)=true:=by simpa using v3
 have v32:decide (s.View.Jobs.Epoch=0)=true:=by simpa using v3
 have Hv3:=Lib.hid v3;clear v3
 by_cases v4:s.View.Jobs.Until=0
 rotate_left
 ·
  have v41:(s.View.Jobs.Until == 0)=false:=by simpa using v4
  have v42:decide (s.View.Jobs.Until=0)=false:=by simpa using v4
  have Hv4:=Lib.hid v4;clear v4
  go_wp2_with (fail)
  go_ret
  exact⟨by rw [show eqB s (⟨s.Id,0,⟨⟨0,0,0,0,0,[]⟩⟩,false,⟨0,0,0,0,0⟩,0⟩:DSched)=false from by rw [HM.out];simp [show eqB s.View (⟨⟨0,0,0,0,0,[]⟩⟩:DView)=false from eqB_false (fun e=>Hv4.out (by rw [e]))]];try rfl,by exact extT⟩
 have v41:(s.View.Jobs.Until == 0)=true:=by simpa using v4
 have v42:decide (s.View.Jobs.Until=0)=true:=by simpa using v4
 have Hv4:=Lib.hid v4;clear v4
 by_cases hl:n1=0
 rotate_left
 ·
  have l1:((n1:Int) == 0)=false:=by simp;omega
  have l2:decide (n1=0)=false:=by simpa using hl
  have HL:=Lib.hid hl;clear hl
  go_wp2_with (fail)
  go_ret
  exact⟨by rw [show eqB s (⟨s.Id,0,⟨⟨0,0,0,0,0,[]⟩⟩,false,⟨0,0,0,0,0⟩,0⟩:DSched)=false from by rw [HM.out];simp [show eqB s.View (⟨⟨0,0,0,0,0,[]⟩⟩:DView)=false from eqB_false (fun e=>HL.out (by rw [HN.out,e];rfl))]];try rfl,by exact extT⟩
 have l1:((n1:Int) == 0)=true:=by simp;omega
 have l2:decide (n1=0)=true:=by simpa using hl
 have HL:=Lib.hid hl;clear hl
 go_wp2_with (fail)
 go_ret
 exact⟨by rw [show eqB s (⟨s.Id,0,⟨⟨0,0,0,0,0,[]⟩⟩,false,⟨0,0,0,0,0⟩,0⟩:DSched)=true from by rw [HM.out,show eqB s.View (⟨⟨0,0,0,0,0,[]⟩⟩:DView)=true from eqB_true (by have q0:=Hv0.out;have q1:=Hv1.out;have q2:=Hv2.out;have q3:=Hv3.out;have q4:=Hv4.out;have q5:s.View.Jobs.Open=[]:=List.eq_nil_of_length_eq_zero (by rw [← HN.out];exact HL.out);revert q0 q1 q2 q3 q4 q5;rcases s.View with ⟨⟨j0,j1,j2,j3,j4,j5⟩⟩;simp only;intro q0 q1 q2 q3 q4 q5;rw [q0,q1,q2,q3,q4,q5]),show eqB s.Op (⟨0,0,0,0,0⟩:DOp)=true from eqB_true (by have q0:=Ho0.out;have q1:=Ho1.out;have q2:=Ho2.out;have q3:=Ho3.out;have q4:=Ho4.out;revert q0 q1 q2 q3 q4;cases s.Op;simp only;intro q0 q1 q2 q3 q4;rw [q0,q1,q2,q3,q4])];simp [He1.out,HB.out,He9.out]];try rfl,by exact extT⟩
theorem l22Sched_k (w:World) {v:Value} {s:DSched} (h:RdSched w v s) (i:Int) (hid:i=2 ∨ i=3) (up:Bool) :
  Calls Tryz.prog 110 #[v,.int .i64 i,.bool up] w (RetV w (.bool (schedFits s i up))):=by
 have HS:=Lib.hid h
 obtain⟨t7,rfl,h7⟩:=h
 obtain⟨a1,n1,k1,rfl⟩:=h7.shape
 obtain⟨W0,hW0⟩:∃ W0,W0=(w.alloc (.cells #[.int .i64 s.Id,.int .i64 s.Seq,.int .i64 s.View.Jobs.Index,.int .i64 s.View.Jobs.Time,.int .i64 s.View.Jobs.Holder,.int .i64 s.View.Jobs.Epoch,.int .i64 s.View.Jobs.Until,.slice a1 n1 k1,.bool s.Busy,.int .i64 s.Op.Kind,.int .i64 s.Op.A,.int .i64 s.Op.B,.int .i64 s.Op.C,.int .i64 s.Op.D,.int .i64 s.Index] 96)):=⟨_,rfl⟩
 have E0:Ext w W0:=by rw [hW0];exact extT
 have KA:Blk W0 (w.heap.size) 96 #[.int .i64 s.Id,.int .i64 s.Seq,.int .i64 s.View.Jobs.Index,.int .i64 s.View.Jobs.Time,.int .i64 s.View.Jobs.Holder,.int .i64 s.View.Jobs.Epoch,.int .i64 s.View.Jobs.Until,.slice a1 n1 k1,.bool s.Busy,.int .i64 s.Op.Kind,.int .i64 s.Op.A,.int .i64 s.Op.B,.int .i64 s.Op.C,.int .i64 s.Op.D,.int .i64 s.Index]:=by rw [hW0];exact Blk.new _ _ _
 go_enter Tryz.func110,Tryz.ntmps110
 go_upto_region 1 with (fail)
 rw [← hW0]
 clear hW0
 have X0:Ext w W0:=E0
 obtain⟨CA,FA,LA⟩:=KA.cfl
 have hR:W0.rangeAt w.heap.size 0 ([.int .i64 s.Id,.int .i64 s.Seq,.int .i64 s.View.Jobs.Index,.int .i64 s.View.Jobs.Time,.int .i64 s.View.Jobs.Holder,.int .i64 s.View.Jobs.Epoch,.int .i64 s.View.Jobs.Until,.slice a1 n1 k1,.bool s.Busy,.int .i64 s.Op.Kind,.int .i64 s.Op.A,.int .i64 s.Op.B,.int .i64 s.Op.C,.int .i64 s.Op.D,.int .i64 s.Index]:List Value):=Bk.range (A:=[]) (cs:=([.int .i64 s.Id,.int .i64 s.Seq,.int .i64 s.View.Jobs.Index,.int .i64 s.View.Jobs.Time,.int .i64 s.View.Jobs.Holder,.int .i64 s.View.Jobs.Epoch,.int .i64 s.View.Jobs.Until,.slice a1 n1 k1,.bool s.Busy,.int .i64 s.Op.Kind,.int .i64 s.Op.A,.int .i64 s.Op.B,.int .i64 s.Op.C,.int .i64 s.Op.D,.int .i64 s.Index]:List Value)) (C:=[]) (Bk.cast (show Bk W0 w.heap.size 96 ([.int .i64 s.Id,.int .i64 s.Seq,.int .i64 s.View.Jobs.Index,.int .i64 s.View.Jobs.Time,.int .i64 s.View.Jobs.Holder,.int .i64 s.View.Jobs.Epoch,.int .i64 s.View.Jobs.Until,.slice a1 n1 k1,.bool s.Busy,.int .i64 s.Op.Kind,.int .i64 s.Op.A,.int .i64 s.Op.B,.int .i64 s.Op.C,.int .i64 s.Op.D,.int .i64 s.Index]:List Value) from KA) (by simp)) rfl
 go_wp2_with (first|(refine wpList_load_mid rfl 96 _ rfl w.heap.size 0 (by rfl) ([.int .i64 s.Id,.int .i64 s.Seq,.int .i64 s.View.Jobs.Index,.int .i64 s.View.Jobs.Time,.int .i64 s.View.Jobs.Holder,.int .i64 s.View.Jobs.Epoch,.int .i64 s.View.Jobs.Until,.slice a1 n1 k1,.bool s.Busy,.int .i64 s.Op.Kind,.int .i64 s.Op.A,.int .i64 s.Op.B,.int .i64 s.Op.C,.int .i64 s.Op.D,.int .i64 s.Index]:List Value) _ hR Tryz.underlying96 rfl (by kernel_rfl) ?_))
 refine (sSchedOk_k (HS.out.ext extT)).mono ?_
 rintro e w1 ⟨rfl,hx1⟩
 have KA:=KA.ext hx1;clear CA FA LA
 have X1:=X0.trans hx1;clear hx1
 obtain⟨CA,FA,LA⟩:=KA.cfl
 cases b1:schedOkS s
 ·
  go_wp2_with (fail)
  go_ret
  exact⟨by rw [show schedFits s i up=false from by exact fits_no b1];try rfl,by exact extT⟩
 by_cases e0:s.Id=i
 rotate_left
 ·
  have e01:(s.Id == i)=false:=by simpa using e0
  have e02:decide (s.Id=i)=false:=by simpa using e0
  have He0:=Lib.hid e0;clear e0
  go_wp2_with (fail)
  go_ret
  exact⟨by rw [show schedFits s i up=false from by exact fits_id He0.out];try rfl,by exact extT⟩
 have e01:(s.Id == i)=true:=by simpa using e0
 have e02:decide (s.Id=i)=true:=by simpa using e0
 have He0:=Lib.hid e0;clear e0
 cases up
 rotate_left
 ·
  go_wp2_with (fail)
  go_ret
  exact⟨by rw [show schedFits s i true=true from by exact fits_up b1 He0.out];try rfl,by exact extT⟩
 have hR1:w1.rangeAt w.heap.size 0 ([.int .i64 s.Id,.int .i64 s.Seq,.int .i64 s.View.Jobs.Index,.int .i64 s.View.Jobs.Time,.int .i64 s.View.Jobs.Holder,.int .i64 s.View.Jobs.Epoch,.int .i64 s.View.Jobs.Until,.slice a1 n1 k1,.bool s.Busy,.int .i64 s.Op.Kind,.int .i64 s.Op.A,.int .i64 s.Op.B,.int .i64 s.Op.C,.int .i64 s.Op.D,.int .i64 s.Index]:List Value):=Bk.range (A:=[]) (cs:=([.int .i64 s.Id,.int .i64 s.Seq,.int .i64 s.View.Jobs.Index,.int .i64 s.View.Jobs.Time,.int .i64 s.View.Jobs.Holder,.int .i64 s.View.Jobs.Epoch,.int .i64 s.View.Jobs.Until,.slice a1 n1 k1,.bool s.Busy,.int .i64 s.Op.Kind,.int .i64 s.Op.A,.int .i64 s.Op.B,.int .i64 s.Op.C,.int .i64 s.Op.D,.int .i64 s.Index]:List Value)) (C:=[]) (Bk.cast (show Bk w1 w.heap.size 96 ([.int .i64 s.Id,.int .i64 s.Seq,.int .i64 s.View.Jobs.Index,.int .i64 s.View.Jobs.Time,.int .i64 s.View.Jobs.Holder,.int .i64 s.View.Jobs.Epoch,.int .i64 s.View.Jobs.Until,.slice a1 n1 k1,.bool s.Busy,.int .i64 s.Op.Kind,.int .i64 s.Op.A,.int .i64 s.Op.B,.int .i64 s.Op.C,.int .i64 s.Op.D,.int .i64 s.Index]:List Value) from KA) (by simp)) rfl
 go_wp2_with (first|(refine wpList_load_midG rfl 96 _ rfl w.heap.size 0 (by rfl) ([.int .i64 s.Id,.int .i64 s.Seq,.int .i64 s.View.Jobs.Index,.int .i64 s.View.Jobs.Time,.int .i64 s.View.Jobs.Holder,.int .i64 s.View.Jobs.Epoch,.int .i64 s.View.Jobs.Until,.slice a1 n1 k1,.bool s.Busy,.int .i64 s.Op.Kind,.int .i64 s.Op.A,.int .i64 s.Op.B,.int .i64 s.Op.C,.int .i64 s.Op.D,.int .i64 s.Index]:List Value) _ hR1 Tryz.underlying96 rfl (by kernel_rfl) ?_))
 refine (l22SchedDown_k _ (HS.out.ext extT)).mono ?_
 rintro e w2 ⟨rfl,hx2⟩
 have KA:=KA.ext hx2;clear CA FA LA
 have X2:=X1.trans hx2;clear hx2
 obtain⟨CA,FA,LA⟩:=KA.cfl
 have HD:=Lib.hid (show schedFits s i false=eqB s (⟨s.Id,0,⟨⟨0,0,0,0,0,[]⟩⟩,false,⟨0,0,0,0,0⟩,0⟩:DSched) from by rw [fits_down b1 He0.out hid,He0.out])
 go_wp2_with fail
 go_ret
 exact⟨by rw [HD.out];try rfl,by exact extT⟩
end Go.Proofs.YtkpmbocbbgocbaaGreat
