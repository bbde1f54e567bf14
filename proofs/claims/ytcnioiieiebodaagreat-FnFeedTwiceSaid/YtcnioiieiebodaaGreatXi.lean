/- Hf. -/
import Derived.Test.YtcnioiieiebodaaGreatYa
import Derived.Defers
import Derived.Recover
import Derived.Deep.DeepCutAuto
import Derived.Test.YtcnioiieiebodaaGreatXe
import Derived.Test.YtcnioiieiebodaaGreatXf
import Derived.Test.YtcnioiieiebodaaGreatYn
set_option linter.unusedSimpArgs false
set_option maxHeartbeats 8000000
set_option maxRecDepth 100000
namespace Go.G8
open Go.RowKit
open Go.Proofs.YtcnioiieiebodaaGreat
noncomputable def hfD (s:DStore) (f:DFeed):DStore:=if storeOk s then (if feedOk f then ⟨s.Disk,feedS s.State f.Entries,s.Num,s.Last,s.Busy⟩ else s) else ⟨⟨[],[]⟩,⟨0,0,[],[],⟨0,0,0⟩⟩,0,0,0⟩
end Go.G8
namespace Go.Proofs.YtcnioiieiebodaaGreat
open Go.RowKit Go.G8
theorem OwStore.isDisk {B:Nat} {w:World} {s:DStore} {F:List Nat} {t0 t1 t4 t5 x2 x3 x6 x7 x8 x9 x10 x11:Value} (h:OwStore B w (.agg #[t0,t1,x2,x3,t4,t5,x6,x7,x8,x9,x10,x11]) s F):IsDisk B w (.agg #[t0,t1]) s.Disk∧OwnI B 157 2 w t4 (flPair s.State.Pairs)∧OwnI B 142 5 w t5 (flJob s.State.Jobs):=by
 obtain⟨u0,u1,u4,u5,s0,s1,e,h0,h1,h4,h5,hd,_⟩:=h
 injection e with e
 injection e with e
 injection e with e0 e
 injection e with e1 e
 injection e with _ e
 injection e with _ e
 injection e with e4 e
 injection e with e5 e
 subst e0;subst e1;subst e4;subst e5
 exact⟨⟨_,_,s0,s1,rfl,h0,h1,hd⟩,h4,h5⟩
theorem heard1_pan (pv:Value) (ty:TypeId) (w:World):CallsD Tryz.prog 67 #[] (.panicking ({ v:=.iface ty pv,recovered:=false } :: [])) w fun e u' w'=>e=.returned (.tuple #[])∧u'=.panicking ({ v:=.iface ty pv,recovered:=true } :: [])∧w'=w:=by
 refine callsD_of_wpS Tryz.func67 rfl fun c₀ cs hu=>?_
 apply wpS_region
 cases c₀
 simp_all [wpOpsS,go_sem,recoverD,Tryz.ntmps67,bodyPostS,results,Tryz.results67]
theorem heard1_idle (w:World):CallsD Tryz.prog 67 #[] .returning w fun e u' w'=>e=.returned (.tuple #[])∧u'=.returning∧w'=w:=by
 refine callsD_of_wpS Tryz.func67 rfl fun c₀ cs hu=>?_
 apply wpS_region
 cases c₀
 simp_all [wpOpsS,go_sem,recoverD,Tryz.ntmps67,bodyPostS,results,Tryz.results67]
theorem heardFeed_k {w:World} {v u:Value} {s:DStore} {f:DFeed} (h:RdStore w v s) (hf:RdFeed w u f):Calls Tryz.prog 24 #[v,u] w (Ret w fun r w'=>∃ F,OwStore w.heap.size w' r (hfD s f) F):=by
 have hmf:∀ (fn:Fn) (first cap:Array Value) (w:World),(Instr.makeFunc fn first cap).run Tryz.prog w=.ok (.func fn first cap) w:=fun _ _ _ _=>rfl
 have HS:=Lib.hid h
 have HF:=Lib.hid hf
 obtain⟨a0,n0,k0,a1,n1,k1,a4,n4,k4,a5,n5,k5,rfl⟩:=h.shape
 obtain⟨t2,rfl,h2⟩:=hf
 obtain⟨a2,n2,k2,rfl⟩:=h2.shape
 clear h h2
 obtain⟨W1,hW1⟩:∃ W1,W1=((w.alloc (.cells #[.slice a0 n0 k0,.slice a1 n1 k1,.int .i64 s.State.Index,.int .i64 s.State.Time,.slice a4 n4 k4,.slice a5 n5 k5,.int .i64 s.State.Lease.Holder,.int .i64 s.State.Lease.Epoch,.int .i64 s.State.Lease.Until,.int .i64 s.Num,.int .i64 s.Last,.int .i64 s.Busy] 65)).alloc (.cells #[.int .i64 f.Base,.int .i64 f.Last,.slice a2 n2 k2] 68)).alloc (.cells #[.slice none 0 0,.slice none 0 0,.int .i64 0,.int .i64 0,.slice none 0 0,.slice none 0 0,.int .i64 0,.int .i64 0,.int .i64 0,.int .i64 0,.int .i64 0,.int .i64 0] 65):=⟨_,rfl⟩
 have E1:Ext w W1:=by rw [hW1];exact (((Ext.refl _).alloc _).alloc _).alloc _
 have KS1:Blk W1 w.heap.size 65 #[.slice a0 n0 k0,.slice a1 n1 k1,.int .i64 s.State.Index,.int .i64 s.State.Time,.slice a4 n4 k4,.slice a5 n5 k5,.int .i64 s.State.Lease.Holder,.int .i64 s.State.Lease.Epoch,.int .i64 s.State.Lease.Until,.int .i64 s.Num,.int .i64 s.Last,.int .i64 s.Busy]:=by rw [hW1];exact ((Blk.new _ _ _).alloc _).alloc _
 have KF1:Blk W1 (w.heap.size+1) 68 #[.int .i64 f.Base,.int .i64 f.Last,.slice a2 n2 k2]:=by rw [hW1];exact (Blk.new2 _ _ _ _).alloc _
 have KR1:Blk W1 (w.heap.size+1+1) 65 #[.slice none 0 0,.slice none 0 0,.int .i64 0,.int .i64 0,.slice none 0 0,.slice none 0 0,.int .i64 0,.int .i64 0,.int .i64 0,.int .i64 0,.int .i64 0,.int .i64 0]:=by rw [hW1];exact Blk.new3 _ _ _ _ _
 have hz1:w.heap.size+2<W1.heap.size:=by rw [hW1];simp
 have HW1:=Lib.hid hW1
 clear hW1
 have CS1:=KS1.cell;have FS1:=KS1.frozen;have LS1:=KS1.lt;have CF1:=KF1.cell;have FF1:=KF1.frozen;have LF1:=KF1.lt;have CR1:=KR1.cell;have FR1:=KR1.frozen;have LR1:=KR1.lt
 go_enter_defers Tryz.func24,Tryz.ntmps24
 go_wp2_with fail
 rw [← HW1.out]
 go_wp2_with fail
 refine (storeOk_r (HS.out.ext E1)).mono ?_
 rintro e9 w2 ⟨rfl,hx2⟩
 have E2:=E1.trans hx2
 have hz2:=hx2.size
 have KS2:=KS1.ext hx2;have KF2:=KF1.ext hx2;have KR2:=KR1.ext hx2
 clear CS1 FS1 LS1 CF1 FF1 LF1 CR1 FR1 LR1
 have CS2:=KS2.cell;have FS2:=KS2.frozen;have LS2:=KS2.lt;have CF2:=KF2.cell;have FF2:=KF2.frozen;have LF2:=KF2.lt;have CR2:=KR2.cell;have FR2:=KR2.frozen;have LR2:=KR2.lt
 cases hso:storeOk s
 ·
  have HM:=Lib.hid (show hfD s f=⟨⟨[],[]⟩,⟨0,0,[],[],⟨0,0,0⟩⟩,0,0,0⟩ from by simp [hfD,hso])
  go_wp2_with fail
  refine⟨_,by simp [results,Tryz.results24,go_sem,CR2,FR2,LR2];try rfl,?_⟩
  refine⟨_,rfl,xT,?_⟩
  rw [HM.out]
  exact OwStore.of (IsDisk.nil _ _) (OwnI.nil _ _ _ _) (OwnI.nil _ _ _ _)
 have HSO:=Lib.hid hso
 clear hso
 go_wp2_with fail
 refine (copyStore_k (HS.out.ext E2) (diskOk_small (storeOk_disk HSO.out)) (stateOk_small (storeOk_state HSO.out))).mono ?_
 rintro e9 w3 ⟨_,rfl,hx3,F3,g3⟩
 obtain⟨b0,m0,j0,b1,m1,j1,b4,m4,j4,b5,m5,j5,rfl⟩:=g3.rd.shape
 obtain⟨gd3,gp3,gj3⟩:=g3.isDisk
 have hz3:=hx3.size
 have E3:=E2.trans hx3
 have KS3:=KS2.ext hx3;have KF3:=KF2.ext hx3;have KR3:=KR2.ext hx3
 clear CS2 FS2 LS2 CF2 FF2 LF2 CR2 FR2 LR2
 have CF3:=KF3.cell;have FF3:=KF3.frozen;have LF3:=KF3.lt;have CR3:=KR3.cell;have FR3:=KR3.frozen;have LR3:=KR3.lt
 go_wp2_with fail
 have hR:w.heap.size+1+1<w2.heap.size:=by omega
 have hRw:w.heap.size≤w.heap.size+1+1:=by omega
 obtain⟨w4,hW4⟩:∃ w4,w4=((((((((((((w3.setCell ⟨w.heap.size+1+1,0,none⟩ (.slice b0 m0 j0)).setCell ⟨w.heap.size+1+1,1,none⟩ (.slice b1 m1 j1)).setCell ⟨w.heap.size+1+1,2,none⟩ (.int .i64 s.State.Index)).setCell ⟨w.heap.size+1+1,3,none⟩ (.int .i64 s.State.Time)).setCell ⟨w.heap.size+1+1,4,none⟩ (.slice b4 m4 j4)).setCell ⟨w.heap.size+1+1,5,none⟩ (.slice b5 m5 j5)).setCell ⟨w.heap.size+1+1,6,none⟩ (.int .i64 s.State.Lease.Holder)).setCell ⟨w.heap.size+1+1,7,none⟩ (.int .i64 s.State.Lease.Epoch)).setCell ⟨w.heap.size+1+1,8,none⟩ (.int .i64 s.State.Lease.Until)).setCell ⟨w.heap.size+1+1,9,none⟩ (.int .i64 s.Num)).setCell ⟨w.heap.size+1+1,10,none⟩ (.int .i64 s.Last)).setCell ⟨w.heap.size+1+1,11,none⟩ (.int .i64 s.Busy)):=⟨_,rfl⟩
 rw [← hW4]
 have E4:Ext w w4:=by rw [hW4];exact ((((((((((((E3.setCell hRw _).setCell hRw _).setCell hRw _).setCell hRw _).setCell hRw _).setCell hRw _).setCell hRw _).setCell hRw _).setCell hRw _).setCell hRw _).setCell hRw _).setCell hRw _)
 have CH4:Chg w2.heap.size w3 w4:=by rw [hW4];exact (((((((((((((Chg.refl _ _).setLow hR _).setLow hR _).setLow hR _).setLow hR _).setLow hR _).setLow hR _).setLow hR _).setLow hR _).setLow hR _).setLow hR _).setLow hR _).setLow hR _)
 have KR4:Blk w4 (w.heap.size+1+1) 65 #[.slice b0 m0 j0,.slice b1 m1 j1,.int .i64 s.State.Index,.int .i64 s.State.Time,.slice b4 m4 j4,.slice b5 m5 j5,.int .i64 s.State.Lease.Holder,.int .i64 s.State.Lease.Epoch,.int .i64 s.State.Lease.Until,.int .i64 s.Num,.int .i64 s.Last,.int .i64 s.Busy]:=by rw [hW4];have:=((((((((((((KR3.set_ 0 (.slice b0 m0 j0)).set_ 1 (.slice b1 m1 j1)).set_ 2 (.int .i64 s.State.Index)).set_ 3 (.int .i64 s.State.Time)).set_ 4 (.slice b4 m4 j4)).set_ 5 (.slice b5 m5 j5)).set_ 6 (.int .i64 s.State.Lease.Holder)).set_ 7 (.int .i64 s.State.Lease.Epoch)).set_ 8 (.int .i64 s.State.Lease.Until)).set_ 9 (.int .i64 s.Num)).set_ 10 (.int .i64 s.Last)).set_ 11 (.int .i64 s.Busy));simpa using this
 have hz4:=CH4.size
 clear hW4 CF3 FF3 LF3 CR3 FR3 LR3
 have gs4:IsState w2.heap.size w4 (.agg #[.int .i64 s.State.Index,.int .i64 s.State.Time,.slice b4 m4 j4,.slice b5 m5 j5,.int .i64 s.State.Lease.Holder,.int .i64 s.State.Lease.Epoch,.int .i64 s.State.Lease.Until]) s.State:=⟨_,_,rfl,gp3.keep CH4,gj3.keep CH4⟩
 cases hfo:feedOk f
 ·
  have HM:=Lib.hid (show hfD s f=s from by simp [hfD,HSO.out,hfo])
  have hmm:s=⟨s.Disk,⟨s.State.Index,s.State.Time,s.State.Pairs,s.State.Jobs,⟨s.State.Lease.Holder,s.State.Lease.Epoch,s.State.Lease.Until⟩⟩,s.Num,s.Last,s.Busy⟩:=rfl
  refine (followed_no gs4 oM (HF.out.ext E4) (storeOk_state HSO.out) hfo).mono ?_
  rintro e9 w5 ⟨⟨x,rfl⟩,hx5⟩
  have KR5:=KR4.ext hx5
  have E5:=E4.trans hx5
  have CH5:=CH4.ext hx5
  obtain⟨CR5,FR5,LR5⟩:=KR5.cfl
  clear hfo hmm
  go_wp2_with fail
  refine leaves_cons (f:=67) (args:=#[]) (by simp) (by simp [go_sem]) ?_
  refine (heard1_pan x 9 _).mono ?_
  rintro e8 u8 w8 ⟨rfl,rfl,rfl⟩
  refine⟨_,by simp [results,Tryz.results24,go_sem,CR5,FR5,LR5];try rfl,?_⟩
  refine⟨_,rfl,xT,?_⟩
  rw [HM.out]
  exact⟨F3,(OwStore.keep g3 CH5).mono oM⟩
 have HM:=Lib.hid (show hfD s f=⟨s.Disk,feedS s.State f.Entries,s.Num,s.Last,s.Busy⟩ from by simp [hfD,HSO.out,hfo])
 refine (followed_yes gs4 oM (HF.out.ext E4) (storeOk_state HSO.out) hfo).mono ?_
 rintro e9 w5 ⟨_,rfl,hx5,p2,p3,rfl,gp,gj⟩
 obtain⟨v2,vn2,vc2,rfl⟩:=gp.shape
 obtain⟨v3,vn3,vc3,rfl⟩:=gj.shape
 have KR5:=KR4.ext hx5
 have E5:=E4.trans hx5
 have CH5:=CH4.ext hx5
 have hz5:=hx5.size
 obtain⟨CR5,FR5,LR5⟩:=KR5.cfl
 clear hfo
 go_upto_region 6 with (fail)
 obtain⟨w6,hW6⟩:∃ w6,w6=(((((((w5.setCell ⟨w.heap.size+1+1,2,none⟩ (.int .i64 (feedS s.State f.Entries).Index)).setCell ⟨w.heap.size+1+1,3,none⟩ (.int .i64 (feedS s.State f.Entries).Time)).setCell ⟨w.heap.size+1+1,4,none⟩ (.slice v2 vn2 vc2)).setCell ⟨w.heap.size+1+1,5,none⟩ (.slice v3 vn3 vc3)).setCell ⟨w.heap.size+1+1,6,none⟩ (.int .i64 (feedS s.State f.Entries).Lease.Holder)).setCell ⟨w.heap.size+1+1,7,none⟩ (.int .i64 (feedS s.State f.Entries).Lease.Epoch)).setCell ⟨w.heap.size+1+1,8,none⟩ (.int .i64 (feedS s.State f.Entries).Lease.Until)):=⟨_,rfl⟩
 rw [← hW6]
 have hR5:w.heap.size+1+1<w2.heap.size:=hR
 have E6:Ext w w6:=by rw [hW6];exact (((((((E5.setCell hRw _).setCell hRw _).setCell hRw _).setCell hRw _).setCell hRw _).setCell hRw _).setCell hRw _)
 have CH6:Chg w2.heap.size w3 w6:=by rw [hW6];exact (((((((CH5.setLow hR _).setLow hR _).setLow hR _).setLow hR _).setLow hR _).setLow hR _).setLow hR _)
 have KR6:Blk w6 (w.heap.size+1+1) 65 #[.slice b0 m0 j0,.slice b1 m1 j1,.int .i64 (feedS s.State f.Entries).Index,.int .i64 (feedS s.State f.Entries).Time,.slice v2 vn2 vc2,.slice v3 vn3 vc3,.int .i64 (feedS s.State f.Entries).Lease.Holder,.int .i64 (feedS s.State f.Entries).Lease.Epoch,.int .i64 (feedS s.State f.Entries).Lease.Until,.int .i64 s.Num,.int .i64 s.Last,.int .i64 s.Busy]:=by rw [hW6];have:=(((((((KR5.set_ 2 (.int .i64 (feedS s.State f.Entries).Index)).set_ 3 (.int .i64 (feedS s.State f.Entries).Time)).set_ 4 (.slice v2 vn2 vc2)).set_ 5 (.slice v3 vn3 vc3)).set_ 6 (.int .i64 (feedS s.State f.Entries).Lease.Holder)).set_ 7 (.int .i64 (feedS s.State f.Entries).Lease.Epoch)).set_ 8 (.int .i64 (feedS s.State f.Entries).Lease.Until));simpa using this
 have gp6:OwnI w2.heap.size 157 2 w6 (.slice v2 vn2 vc2) (flPair (feedS s.State f.Entries).Pairs):=by rw [hW6];exact OwnI.keep gp ((((((((Chg.refl _ _).setLow hR _).setLow hR _).setLow hR _).setLow hR _).setLow hR _).setLow hR _).setLow hR _)
 have gj6:OwnI w2.heap.size 142 5 w6 (.slice v3 vn3 vc3) (flJob (feedS s.State f.Entries).Jobs):=by rw [hW6];exact OwnI.keep gj ((((((((Chg.refl _ _).setLow hR _).setLow hR _).setLow hR _).setLow hR _).setLow hR _).setLow hR _).setLow hR _)
 have gd6:=gd3.keep CH6
 clear hW6 CR5 FR5 LR5
 obtain⟨CR6,FR6,LR6⟩:=KR6.cfl
 go_wp2_with fail
 refine leaves_cons (f:=67) (args:=#[]) (by simp) (by simp [go_sem]) ?_
 refine (heard1_idle _).mono ?_
 rintro e8 u8 w8 ⟨rfl,rfl,rfl⟩
 refine⟨_,by simp [results,Tryz.results24,go_sem,CR6,FR6,LR6];try rfl,?_⟩
 refine⟨_,rfl,xT,?_⟩
 rw [HM.out]
 exact OwStore.of ((gd6.keep chgT).mono oM) ((gp6.keep chgT).mono oM) ((gj6.keep chgT).mono oM)
end Go.Proofs.YtcnioiieiebodaaGreat
