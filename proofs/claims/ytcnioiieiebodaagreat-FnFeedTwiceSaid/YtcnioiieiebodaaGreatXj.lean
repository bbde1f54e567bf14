/- FTM Hf2 HelpJ KF. -/
import Derived.Test.YtcnioiieiebodaaGreatYa
import Derived.Test.YtcnioiieiebodaaGreatXi
import Derived.Deep.DeepCutAuto
import Derived.Test.YtcnioiieiebodaaGreatXe
import Derived.Test.YtcnioiieiebodaaGreatYk
import Derived.Test.YtcnioiieiebodaaGreatXx
import Derived.Test.YtcnioiieiebodaaGreatYo
set_option linter.unusedSimpArgs false
set_option maxHeartbeats 8000000
set_option maxRecDepth 100000
namespace Go.G8
open Go.RowKit
open Go.Proofs.YtcnioiieiebodaaGreat
theorem stepS_ix {s:DState} {e:DEntry}:(stepS s e).Index=e.Index:=by
 unfold stepS
 repeat' split
 all_goals rfl
theorem feedS_low:∀ (l:List DEntry) (s:DState),s.Index≤(feedS s l).Index
 | [],s=>Int.le_refl _
 | e :: t,s=>by
  simp only [feedS]
  refine Int.le_trans ?_ (feedS_low t _)
  split
  ·
   rename_i h
   have h1:=(nextIn_parts h).2.1
   have h2:=stepS_ix (s:=s) (e:=e)
   omega
  exact Int.le_refl _
theorem feedS_same:∀ (l:List DEntry) (s:DState),feedS s l=s ∨ ∃ e,e ∈ l∧e.Index≤(feedS s l).Index
 | [],s=>.inl rfl
 | e :: t,s=>by
  simp only [feedS]
  split
  ·
   refine .inr ⟨e,List.mem_cons_self ..,?_⟩
   have h1:=feedS_low t (stepS s e)
   have h2:=stepS_ix (s:=s) (e:=e)
   omega
  rcases feedS_same t s with h|⟨e',h1,h2⟩
  ·
   exact .inl h
  exact .inr ⟨e',List.mem_cons_of_mem _ h1,h2⟩
theorem nextIn_not {m:DState} {e:DEntry} (h:e.Index≤m.Index):nextIn m e=false:=by
 cases hn:nextIn m e
 ·
  rfl
 have:=(nextIn_parts hn).2.1
 omega
theorem feedS_done:∀ (l:List DEntry) (s:DState),Srt DEntry.Index l→∀ e,e ∈ l→nextIn (feedS s l) e=false
 | [],s,_,e,h=>by cases h
 | a :: t,s,hs,e,h=>by
  have hs2:=List.pairwise_cons.1 hs
  simp only [feedS]
  rcases List.mem_cons.1 h with rfl|h
  ·
   split
   ·
    have h1:=feedS_low t (stepS s e)
    have h2:=stepS_ix (s:=s) (e:=e)
    exact nextIn_not oM
   rename_i hn
   rcases feedS_same t s with h|⟨e',h1,h2⟩
   ·
    rw [h];simpa using hn
   have:=hs2.1 e' h1
   exact nextIn_not oM
  exact feedS_done t _ hs2.2 e h
theorem feedS_stuck:∀ (l:List DEntry) (s:DState),(∀ e,e ∈ l→nextIn s e=false)→feedS s l=s
 | [],_,_=>rfl
 | e :: t,s,h=>by
  simp only [feedS]
  rw [h e (List.mem_cons_self ..)]
  exact feedS_stuck t s fun x hx=>h x (List.mem_cons_of_mem _ hx)
theorem entries_srt {l:List DEntry} (h:entriesOk l=true):Srt DEntry.Index l:=srt_of_adj fun i d e hd he=>by
 have h1:=(entriesOk_iff.1 h).2 (i+1) (List.getElem?_eq_some_iff.1 hd).1 d hd
 have h2:=(h1.2 e oM he).1
 show e.Index<d.Index
 omega
theorem feedS_twice {l:List DEntry} (h:entriesOk l=true) (s:DState):feedS (feedS s l) l=feedS s l:=feedS_stuck l _ (feedS_done l s (entries_srt h))
theorem hf_no {s:DStore} {f:DFeed} (h:storeOk s=false):storeOk (hfD s f)=false:=by
 unfold hfD
 rw [h]
 rfl
theorem hf_yes {s:DStore} {f:DFeed} (h:storeOk s=true):storeOk (hfD s f)=true∧(hfD s f).Last=s.Last∧(hfD s f).Busy=s.Busy∧s.State.Index≤(hfD s f).State.Index∧(hfD (hfD s f) f).State=(hfD s f).State∧stateOk (hfD s f).State=true:=by
 have hst:=storeOk_state h
 have e1:hfD s f=if feedOk f then ⟨s.Disk,feedS s.State f.Entries,s.Num,s.Last,s.Busy⟩ else s:=by
  unfold hfD;rw [h];rfl
 cases hf:feedOk f with
 | false =>
  have e2:hfD s f=s:=by rw [e1,hf];rfl
  rw [e2,e2]
  exact⟨h,rfl,rfl,Int.le_refl _,rfl,hst⟩
 | true =>
  have e2:hfD s f=⟨s.Disk,feedS s.State f.Entries,s.Num,s.Last,s.Busy⟩:=by rw [e1,hf];rfl
  have hl:=feedS_low f.Entries s.State
  have hok:=feedS_ok f.Entries s.State hst
  have he:entriesOk f.Entries=true:=by
   simp only [feedOk,Bool.and_eq_true] at hf
   exact hf.2.2.2.1
  have h3:storeOk ⟨s.Disk,feedS s.State f.Entries,s.Num,s.Last,s.Busy⟩=true:=by
   simp only [storeOk,Bool.and_eq_true,Bool.or_eq_true,decide_eq_true_eq] at h ⊢
   obtain⟨g1,g2,g3,g4,g5,g6⟩:=h
   have g4:=inb_true.1 g4
   refine⟨g1,hok,g3,inb_of g4.1 oM,g5,?_⟩
   rcases g6 with g6|⟨g6,g7,g8⟩
   ·
    exact .inl g6
   exact .inr ⟨g6,g7,by omega⟩
  have e3:hfD ⟨s.Disk,feedS s.State f.Entries,s.Num,s.Last,s.Busy⟩ f=⟨s.Disk,feedS (feedS s.State f.Entries) f.Entries,s.Num,s.Last,s.Busy⟩:=by
   unfold hfD;rw [h3,hf];rfl
  rw [e2,e3]
  exact⟨h3,rfl,rfl,hl,feedS_twice he _,hok⟩
end Go.G8
namespace Go.Proofs.YtcnioiieiebodaaGreat
open Go.RowKit Go.G8
theorem IsDisk.boxS {B:Nat} {w:World} {v:Value} {d:DDisk} (h:IsDisk B w v d) {X:Nat} {a:Array Value} (hX:Blk w X 65 a) (i:Nat) (u:Value):IsDisk B (w.setCell ⟨X,i,none⟩ u) v d :=
 let ⟨t0,t1,s0,s1,e,h0,h1,hd⟩:=h;⟨t0,t1,s0,s1,e,h0.box hX dC dC i u,h1.box hX dC dC i u,hd⟩
theorem sHeardFeed_k {w:World} {v u:Value} {s:DStore} {f:DFeed} (h:RdStore w v s) (hf:RdFeed w u f):Calls Tryz.prog 23 #[v,u] w (Ret w fun r w'=>∃ F,OwStore w.heap.size w' r (hfD s f) F):=by
 have HS:=Lib.hid h
 have HF:=Lib.hid hf
 obtain⟨a0,n0,k0,a1,n1,k1,a4,n4,k4,a5,n5,k5,rfl⟩:=h.shape
 obtain⟨t2,rfl,h2⟩:=hf
 obtain⟨a9,k9,rfl,hcap,hm,ha⟩:=h2.recs (f:=DEntry.ints) (fun _=>rfl) dC
 have HA:=Lib.hid ha
 clear h h2 ha
 unfold maxLen at hm
 obtain⟨W1,hW1⟩:∃ W1,W1=((w.alloc (.cells #[.slice a0 n0 k0,.slice a1 n1 k1,.int .i64 s.State.Index,.int .i64 s.State.Time,.slice a4 n4 k4,.slice a5 n5 k5,.int .i64 s.State.Lease.Holder,.int .i64 s.State.Lease.Epoch,.int .i64 s.State.Lease.Until,.int .i64 s.Num,.int .i64 s.Last,.int .i64 s.Busy] 65)).alloc (.cells #[.int .i64 f.Base,.int .i64 f.Last,.slice a9 f.Entries.length k9] 68)).alloc (.cells #[.slice none 0 0,.slice none 0 0,.int .i64 0,.int .i64 0,.slice none 0 0,.slice none 0 0,.int .i64 0,.int .i64 0,.int .i64 0,.int .i64 0,.int .i64 0,.int .i64 0] 65):=⟨_,rfl⟩
 have E1:Ext w W1:=by rw [hW1];exact (((Ext.refl _).alloc _).alloc _).alloc _
 have KS1:Blk W1 w.heap.size 65 #[.slice a0 n0 k0,.slice a1 n1 k1,.int .i64 s.State.Index,.int .i64 s.State.Time,.slice a4 n4 k4,.slice a5 n5 k5,.int .i64 s.State.Lease.Holder,.int .i64 s.State.Lease.Epoch,.int .i64 s.State.Lease.Until,.int .i64 s.Num,.int .i64 s.Last,.int .i64 s.Busy]:=by rw [hW1];exact ((Blk.new _ _ _).alloc _).alloc _
 have KF1:Blk W1 (w.heap.size+1) 68 #[.int .i64 f.Base,.int .i64 f.Last,.slice a9 f.Entries.length k9]:=by rw [hW1];exact (Blk.new2 _ _ _ _).alloc _
 have KR1:Blk W1 (w.heap.size+1+1) 65 #[.slice none 0 0,.slice none 0 0,.int .i64 0,.int .i64 0,.slice none 0 0,.slice none 0 0,.int .i64 0,.int .i64 0,.int .i64 0,.int .i64 0,.int .i64 0,.int .i64 0]:=by rw [hW1];exact Blk.new3 _ _ _ _ _
 have hz1:w.heap.size+2<W1.heap.size:=by rw [hW1];simp
 have HW1:=Lib.hid hW1
 clear hW1
 have CS1:=KS1.cell;have FS1:=KS1.frozen;have LS1:=KS1.lt;have CF1:=KF1.cell;have FF1:=KF1.frozen;have LF1:=KF1.lt;have CR1:=KR1.cell;have FR1:=KR1.frozen;have LR1:=KR1.lt
 go_enter Tryz.func23,Tryz.ntmps23
 go_wp2_with fail
 rw [← HW1.out]
 go_wp2_with fail
 refine (sStoreOk_r (HS.out.ext E1)).mono ?_
 rintro e9 w2 ⟨rfl,hx2⟩
 have E2:=E1.trans hx2
 have hz2:=hx2.size
 have KS2:=KS1.ext hx2;have KF2:=KF1.ext hx2;have KR2:=KR1.ext hx2
 clear CS1 FS1 LS1 CF1 FF1 LF1 CR1 FR1 LR1
 have CS2:=KS2.cell;have FS2:=KS2.frozen;have LS2:=KS2.lt;have CF2:=KF2.cell;have FF2:=KF2.frozen;have LF2:=KF2.lt;have CR2:=KR2.cell;have FR2:=KR2.frozen;have LR2:=KR2.lt
 cases hso:storeOk s
 ·
  have HM:=Lib.hid (show hfD s f=⟨⟨[],[]⟩,⟨0,0,[],[],⟨0,0,0⟩⟩,0,0,0⟩ from by simp [hfD,hso])
  go_wp2_with fail
  refine bodyPost_ret (by simp [results,Tryz.results23,go_sem,CR2,FR2,LR2];try rfl) rfl ?_
  refine⟨_,rfl,xT,?_⟩
  rw [HM.out]
  exact OwStore.of (IsDisk.nil _ _) (OwnI.nil _ _ _ _) (OwnI.nil _ _ _ _)
 have HSO:=Lib.hid hso
 clear hso
 go_wp2_with fail
 refine (l19Copy_k (HS.out.ext E2) (diskOk_small (storeOk_disk HSO.out)) (stateOk_small (storeOk_state HSO.out))).mono ?_
 rintro e9 w3 ⟨_,rfl,hx3,F3,g3⟩
 obtain⟨b0,m0,j0,b1,m1,j1,b4,m4,j4,b5,m5,j5,rfl⟩:=g3.rd.shape
 have hz3:=hx3.size
 obtain⟨w4,hW4⟩:∃ w4,w4=w3.alloc (.cells #[.slice b0 m0 j0,.slice b1 m1 j1,.int .i64 s.State.Index,.int .i64 s.State.Time,.slice b4 m4 j4,.slice b5 m5 j5,.int .i64 s.State.Lease.Holder,.int .i64 s.State.Lease.Epoch,.int .i64 s.State.Lease.Until,.int .i64 s.Num,.int .i64 s.Last,.int .i64 s.Busy] 65):=⟨_,rfl⟩
 have X4:Ext w2 w4:=by rw [hW4];exact hx3.alloc _
 have KO4:Blk w4 w3.heap.size 65 #[.slice b0 m0 j0,.slice b1 m1 j1,.int .i64 s.State.Index,.int .i64 s.State.Time,.slice b4 m4 j4,.slice b5 m5 j5,.int .i64 s.State.Lease.Holder,.int .i64 s.State.Lease.Epoch,.int .i64 s.State.Lease.Until,.int .i64 s.Num,.int .i64 s.Last,.int .i64 s.Busy]:=by rw [hW4];exact Blk.new _ _ _
 have g4:OwStore w2.heap.size w4 (.agg #[.slice b0 m0 j0,.slice b1 m1 j1,.int .i64 s.State.Index,.int .i64 s.State.Time,.slice b4 m4 j4,.slice b5 m5 j5,.int .i64 s.State.Lease.Holder,.int .i64 s.State.Lease.Epoch,.int .i64 s.State.Lease.Until,.int .i64 s.Num,.int .i64 s.Last,.int .i64 s.Busy]) s F3:=g3.ext (by rw [hW4];exact (Ext.refl _).alloc _)
 have HW4:=Lib.hid hW4
 have E4:Ext w w4:=E2.trans X4
 have KF3:=KF2.ext hx3
 have KF4:=KF2.ext X4;have KR4:=KR2.ext X4
 have hz4:=X4.size
 clear hW4 g3 CS2 FS2 LS2 CF2 FF2 LF2 CR2 FR2 LR2
 obtain⟨CF3,FF3,LF3⟩:=KF3.cfl
 obtain⟨X,hX⟩:∃ X,X=w3.heap.size:=⟨_,rfl⟩
 rw [← hX] at KO4
 have hXl:=KO4.lt
 have hX2:w2.heap.size≤X:=by omega
 have HX:=Lib.hid hX
 clear hX
 go_wp2_with fail
 rw [← HW4.out,← HX.out]
 clear CF3 FF3 LF3 KF3
 refine (sFeedOk_r (HF.out.ext E4)).mono ?_
 rintro e9 w5 ⟨rfl,hx5⟩
 have E5:=E4.trans hx5
 have hz5:=hx5.size
 have KF5:=KF4.ext hx5;have KR5:=KR4.ext hx5;have KO5:=KO4.ext hx5
 have g5:=g4.ext hx5
 cases hfo:feedOk f
 ·
  have HM:=Lib.hid (show hfD s f=s from by simp [hfD,HSO.out,hfo])
  have CF5:=KF5.cell;have FF5:=KF5.frozen;have LF5:=KF5.lt;have CR5:=KR5.cell;have FR5:=KR5.frozen;have LR5:=KR5.lt;have CO5:=KO5.cell;have FO5:=KO5.frozen;have LO5:=KO5.lt
  go_wp2_with fail
  refine bodyPost_ret (by simp [results,Tryz.results23,go_sem,CR5,FR5,LR5];try rfl) rfl ?_
  refine⟨_,rfl,xT,?_⟩
  rw [HM.out]
  exact⟨F3,(OwStore.keep g5 chgT).mono oM⟩
 have HM:=Lib.hid (show hfD s f=⟨s.Disk,feedS s.State f.Entries,s.Num,s.Last,s.Busy⟩ from by simp [hfD,HSO.out,hfo])
 obtain⟨gd5,gp5,gj5⟩:=g5.isDisk
 clear hfo
 obtain⟨CF5,FF5,LF5⟩:=KF5.cfl
 go_wp2_with fail
 go_loopw [6] (fun ii wr=>∃ (k:Nat) (m:DState) (b2:Option Addr) (q2 o2:Nat) (b3:Option Addr) (q3 o3:Nat),k≤f.Entries.length∧ii=.int .i64 k∧Ext w wr∧Blk wr X 65 #[.slice b0 m0 j0,.slice b1 m1 j1,.int .i64 m.Index,.int .i64 m.Time,.slice b2 q2 o2,.slice b3 q3 o3,.int .i64 m.Lease.Holder,.int .i64 m.Lease.Epoch,.int .i64 m.Lease.Until,.int .i64 s.Num,.int .i64 s.Last,.int .i64 s.Busy]∧Blk wr (w.heap.size+1+1) 65 #[.slice none 0 0,.slice none 0 0,.int .i64 0,.int .i64 0,.slice none 0 0,.slice none 0 0,.int .i64 0,.int .i64 0,.int .i64 0,.int .i64 0,.int .i64 0,.int .i64 0]∧Blk wr (w.heap.size+1) 68 #[.int .i64 f.Base,.int .i64 f.Last,.slice a9 f.Entries.length k9]∧IsDisk w2.heap.size wr (.agg #[.slice b0 m0 j0,.slice b1 m1 j1]) s.Disk∧OwnI w2.heap.size 157 2 wr (.slice b2 q2 o2) (flPair m.Pairs)∧OwnI w2.heap.size 142 5 wr (.slice b3 q3 o3) (flJob m.Jobs)∧Hid (feedS s.State (f.Entries.take k)=m)∧Hid (stateOk m=true)) (fun ii _=>f.Entries.length - (intOf ii).toNat)
 case atStart=>exact⟨0,s.State,b4,m4,j4,b5,m5,j5,Nat.zero_le _,rfl,E5,KO5,KR5,KF5,gd5,gp5,gj5,Lib.hid rfl,Lib.hid (storeOk_state HSO.out)⟩
 case round =>
  clear KF4 KR4 KO4 KO5 KR5 gd5 gp5 gj5 g5 g4 CF5 FF5 LF5 KF5
  obtain⟨k,m,b2,q2,o2,b3,q3,o3,hk,rfl,he,KX,KR,KF,gd,P0,J0,hf,hmo⟩:=hrel
  have hzr:=he.size
  have hRD:RdState wr (.agg #[.int .i64 m.Index,.int .i64 m.Time,.slice b2 q2 o2,.slice b3 q3 o3,.int .i64 m.Lease.Holder,.int .i64 m.Lease.Epoch,.int .i64 m.Lease.Until]) m:=⟨_,_,rfl,P0.ints,J0.ints⟩
  have HRD:=Lib.hid hRD
  clear hRD
  have hxl:=KX.lt
  have hrx:w.heap.size+1+1 ≠ X:=by omega
  have hfx:w.heap.size+1 ≠ X:=by omega
  have CF:=KF.cell;have LF:=KF.lt
  by_cases hlt:k<f.Entries.length
  ·
   obtain⟨d,b9,o9,hd,rfl,hb9,c⟩:=HA.out k hlt
   have d0:=he.cell (c 0 _ dC rfl)
   have d1:=he.cell (c 1 _ dC rfl)
   have d2:=he.cell (c 2 _ dC rfl)
   have d3:=he.cell (c 3 _ dC rfl)
   have d4:=he.cell (c 4 _ dC rfl)
   have d5:=he.cell (c 5 _ dC rfl)
   have d6:=he.cell (c 6 _ dC rfl)
   have d7:=he.cell (c 7 _ dC rfl)
   have d8:=he.cell (c 8 _ dC rfl)
   simp only [Nat.add_zero] at d0
   have HD:=Lib.hid hd
   clear c hd
   have hkI:(k:Int)<(f.Entries.length:Int):=by omega
   go_wp2_with fail
   clear CF LF
   have yx0:∀ w',Ext wr w'→w'.cell? ⟨X,2,none⟩=some (.int .i64 m.Index):=fun w' hw=>(KX.ext hw).cell 2
   have yx1:∀ w',Ext wr w'→w'.cell? ⟨X,3,none⟩=some (.int .i64 m.Time):=fun w' hw=>(KX.ext hw).cell 3
   have yx2:∀ w',Ext wr w'→w'.cell? ⟨X,4,none⟩=some (.slice b2 q2 o2):=fun w' hw=>(KX.ext hw).cell 4
   have yx3:∀ w',Ext wr w'→w'.cell? ⟨X,5,none⟩=some (.slice b3 q3 o3):=fun w' hw=>(KX.ext hw).cell 5
   have yx4:∀ w',Ext wr w'→w'.cell? ⟨X,6,none⟩=some (.int .i64 m.Lease.Holder):=fun w' hw=>(KX.ext hw).cell 6
   have yx5:∀ w',Ext wr w'→w'.cell? ⟨X,7,none⟩=some (.int .i64 m.Lease.Epoch):=fun w' hw=>(KX.ext hw).cell 7
   have yx6:∀ w',Ext wr w'→w'.cell? ⟨X,8,none⟩=some (.int .i64 m.Lease.Until):=fun w' hw=>(KX.ext hw).cell 8
   have yf:∀ w',Ext wr w'→w'.cell? ⟨w.heap.size+1,2,none⟩=some (.slice (some ⟨b9,o9,none⟩) f.Entries.length k9):=fun w' hw=>(KF.ext hw).cell 2
   have yd0:=fun w' (hw:Ext wr w')=>hw.cell d0
   have yd1:=fun w' (hw:Ext wr w')=>hw.cell d1
   have yd2:=fun w' (hw:Ext wr w')=>hw.cell d2
   have yd3:=fun w' (hw:Ext wr w')=>hw.cell d3
   have yd4:=fun w' (hw:Ext wr w')=>hw.cell d4
   have yd5:=fun w' (hw:Ext wr w')=>hw.cell d5
   have yd6:=fun w' (hw:Ext wr w')=>hw.cell d6
   have yd7:=fun w' (hw:Ext wr w')=>hw.cell d7
   have yd8:=fun w' (hw:Ext wr w')=>hw.cell d8
   clear d0 d1 d2 d3 d4 d5 d6 d7 d8
   go_cut [7,8] (fun sx bx wx=>∃ gg v2 vn2 vc2 v3 vn3 vc3,sx=.pointer (some ⟨gg,0,none⟩)∧bx=.bool (appOk m d)∧Ext wr wx∧wr.heap.size≤gg∧Blk wx gg 63 #[.int .i64 (appD m d).Index,.int .i64 (appD m d).Time,.slice v2 vn2 vc2,.slice v3 vn3 vc3,.int .i64 (appD m d).Lease.Holder,.int .i64 (appD m d).Lease.Epoch,.int .i64 (appD m d).Lease.Until]∧OwnI wr.heap.size 157 2 wx (.slice v2 vn2 vc2) (flPair (appD m d).Pairs)∧OwnI wr.heap.size 142 5 wx (.slice v3 vn3 vc3) (flJob (appD m d).Jobs))
   case first =>
    go_region_held3 (fun w'=>Ext wr w') (exact xT) (first|(go_at_call 65;refine (sApplied_k (HRD.out.ext (by repeat' (first|(with_reducible exact Ext.refl _)|(with_reducible refine Ext.drewN ?_ _)|(with_reducible refine Ext.drew ?_)|(with_reducible refine Ext.alloc ?_ _)|(with_reducible refine Ext.setCell ?_ ?_ _)|(with_reducible refine Ext.trans ?_ hxb)|(with_reducible assumption)|omega))) d.Index d.Time d.Client d.Seq d.Op.Kind d.Op.A d.Op.B d.Op.C d.Op.D).mono ?_;rintro e9 wb ⟨_,rfl,hxb,u9,rfl,p2,p3,rfl,gp,gj⟩;obtain⟨v2,vn2,vc2,rfl⟩:=gp.shape;obtain⟨v3,vn3,vc3,rfl⟩:=gj.shape;have hzhxb:=hxb.size;obtain⟨hchxb,hdhxb⟩:=hxb.cells;(try simp only [World.size_alloc,size_drew] at hzhxb hchxb hdhxb);(try have hqhxbwr:wr.heap.size<wb.heap.size:=oM)))
    all_goals clear yx0 yx1 yx2 yx3 yx4 yx5 yx6 yf yd0 yd1 yd2 yd3 yd4 yd5 yd6 yd7 yd8 hchxb hdhxb
    all_goals go_wp2_with fail
    all_goals go_meet
    all_goals case rel =>
     (try simp only [World.size_alloc,size_drew] at *)
     exact⟨_,_,_,_,_,_,_,rfl,by first|rfl|trivial,xT,by omega,(Blk.cast (by repeat' (first|(with_reducible assumption)|(with_reducible exact Blk.new _ _ _)|(with_reducible exact Blk.new2 _ _ _ _)|(with_reducible (apply Blk.ext;rotate_left;exact hxb))|(with_reducible apply Blk.drew)|(with_reducible apply Blk.drewN)|(with_reducible apply Blk.alloc)|(with_reducible apply Blk.set_)|(with_reducible apply Blk.row)|(with_reducible apply Blk.far)|(with_reducible apply Blk.rowFar)|omega|(simp;omega))) (by simp)),(gp.keep chgT).mono oM,(gj.keep chgT).mono oM⟩
   revert wc;intro w6 hcut
   obtain⟨gg,v2,vn2,vc2,v3,vn3,vc3,rfl,rfl,X5,hge5,KG5,gp,gj⟩:=hcut
   clear yx0 yx1 yx2 yx3 yx4 yx5 yx6 yf yd0 yd1 yd2 yd3 yd4 yd5 yd6 yd7 yd8
   have KX5:=KX.ext X5;have KR5:=KR.ext X5;have KF5:=KF.ext X5
   have gd5:=gd.ext X5
   have hz6:=X5.size
   have E6:=he.trans X5
   have CX5:=KX5.cell;have FX5:=KX5.frozen;have LX5:=KX5.lt;have CG5:=KG5.cell;have FG5:=KG5.frozen;have LG5:=KG5.lt
   cases hn:nextIn m d
   ·
    have ha:appOk m d=false:=by simp [appOk,hn]
    rw [ha]
    have hnx:feedS s.State (f.Entries.take (k+1))=m:=by rw [feedS_next hf.out HD.out,hn];rfl
    have HNX:=Lib.hid hnx
    clear hnx hn ha
    go_wp2_with fail
    go_roundw
    case rel=>exact⟨k+1,m,b2,q2,o2,b3,q3,o3,by omega,by go_num,E6,KX5,KR5,KF5,gd5,Own.ext P0 X5,Own.ext J0 X5,HNX,hmo⟩
    case measure=>simp [intOf];omega
   have ha:appOk m d=true:=by simp [appOk,hmo.out,hn]
   have hb:appD m d=stepS m d:=by simp [appD,hmo.out,hn]
   have hnx:feedS s.State (f.Entries.take (k+1))=stepS m d:=by rw [feedS_next hf.out HD.out,hn];rfl
   have HN:=Lib.hid hn;have HNX:=Lib.hid hnx
   rw [ha]
   rw [hb] at KG5 gp gj
   clear hn ha hb hnx CG5 FG5 LG5
   have CG5:=KG5.cell;have LG5:=KG5.lt
   go_wp2_with fail
   go_roundw
   case rel =>
    refine⟨k+1,stepS m d,v2,vn2,vc2,v3,vn3,vc3,by omega,by go_num,xT,?_,(((((((KR5.far (p:=⟨X,2,none⟩) hrx (.int .i64 (stepS m d).Index)).far (p:=⟨X,3,none⟩) hrx (.int .i64 (stepS m d).Time)).far (p:=⟨X,4,none⟩) hrx (.slice v2 vn2 vc2)).far (p:=⟨X,5,none⟩) hrx (.slice v3 vn3 vc3)).far (p:=⟨X,6,none⟩) hrx (.int .i64 (stepS m d).Lease.Holder)).far (p:=⟨X,7,none⟩) hrx (.int .i64 (stepS m d).Lease.Epoch)).far (p:=⟨X,8,none⟩) hrx (.int .i64 (stepS m d).Lease.Until)),(((((((KF5.far (p:=⟨X,2,none⟩) hfx (.int .i64 (stepS m d).Index)).far (p:=⟨X,3,none⟩) hfx (.int .i64 (stepS m d).Time)).far (p:=⟨X,4,none⟩) hfx (.slice v2 vn2 vc2)).far (p:=⟨X,5,none⟩) hfx (.slice v3 vn3 vc3)).far (p:=⟨X,6,none⟩) hfx (.int .i64 (stepS m d).Lease.Holder)).far (p:=⟨X,7,none⟩) hfx (.int .i64 (stepS m d).Lease.Epoch)).far (p:=⟨X,8,none⟩) hfx (.int .i64 (stepS m d).Lease.Until)),(((((((gd5.boxS KX5 2 (.int .i64 (stepS m d).Index)).boxS (KX5.set_ 2 (.int .i64 (stepS m d).Index)) 3 (.int .i64 (stepS m d).Time)).boxS ((KX5.set_ 2 (.int .i64 (stepS m d).Index)).set_ 3 (.int .i64 (stepS m d).Time)) 4 (.slice v2 vn2 vc2)).boxS (((KX5.set_ 2 (.int .i64 (stepS m d).Index)).set_ 3 (.int .i64 (stepS m d).Time)).set_ 4 (.slice v2 vn2 vc2)) 5 (.slice v3 vn3 vc3)).boxS ((((KX5.set_ 2 (.int .i64 (stepS m d).Index)).set_ 3 (.int .i64 (stepS m d).Time)).set_ 4 (.slice v2 vn2 vc2)).set_ 5 (.slice v3 vn3 vc3)) 6 (.int .i64 (stepS m d).Lease.Holder)).boxS (((((KX5.set_ 2 (.int .i64 (stepS m d).Index)).set_ 3 (.int .i64 (stepS m d).Time)).set_ 4 (.slice v2 vn2 vc2)).set_ 5 (.slice v3 vn3 vc3)).set_ 6 (.int .i64 (stepS m d).Lease.Holder)) 7 (.int .i64 (stepS m d).Lease.Epoch)).boxS ((((((KX5.set_ 2 (.int .i64 (stepS m d).Index)).set_ 3 (.int .i64 (stepS m d).Time)).set_ 4 (.slice v2 vn2 vc2)).set_ 5 (.slice v3 vn3 vc3)).set_ 6 (.int .i64 (stepS m d).Lease.Holder)).set_ 7 (.int .i64 (stepS m d).Lease.Epoch)) 8 (.int .i64 (stepS m d).Lease.Until)),(gp.keep ((((((((Chg.refl _ _).setLow hxl _).setLow hxl _).setLow hxl _).setLow hxl _).setLow hxl _).setLow hxl _).setLow hxl _)).mono oM,(gj.keep ((((((((Chg.refl _ _).setLow hxl _).setLow hxl _).setLow hxl _).setLow hxl _).setLow hxl _).setLow hxl _).setLow hxl _)).mono oM,HNX,Lib.hid (stepS_ok hmo.out HN.out)⟩
    have:=(((((((KX5.set_ 2 (.int .i64 (stepS m d).Index)).set_ 3 (.int .i64 (stepS m d).Time)).set_ 4 (.slice v2 vn2 vc2)).set_ 5 (.slice v3 vn3 vc3)).set_ 6 (.int .i64 (stepS m d).Lease.Holder)).set_ 7 (.int .i64 (stepS m d).Lease.Epoch)).set_ 8 (.int .i64 (stepS m d).Lease.Until))
    simpa using this
   case measure=>simp [intOf];omega
  obtain rfl:k=f.Entries.length:=by omega
  have hff:=hf.out
  rw [List.take_length] at hff
  have HFF:=Lib.hid hff
  clear hff
  have CX:=KX.cell;have LX:=KX.lt
  obtain⟨CR,FR,LR⟩:=KR.cfl
  have hzz:=he.size
  go_wp2_with fail
  refine bodyPost_ret (by simp [results,Tryz.results23,go_sem,CR,FR,LR];try rfl) rfl ?_
  refine⟨_,rfl,xT,?_⟩
  rw [HM.out]
  exact by rw [HFF.out];exact OwStore.of ((gd.keep chgT).mono oM) ((P0.keep chgT).mono oM) ((J0.keep chgT).mono oM)
def OwFeed (B:Nat) (w:World) (v:Value) (s:DFeed) (F:List Nat):Prop:=∃ t2:Value,v=.agg #[.int .i64 s.Base,.int .i64 s.Last,t2]∧OwnI B 105 9 w t2 (flEntry s.Entries)∧F=feet [t2]
def MkFeed (B:Nat) (w:World) (v:Value) (s:DFeed) (F:List Nat) (q:Int):Prop:=∃ t2:Value,v=.agg #[.int .i64 s.Base,.int .i64 s.Last,t2]∧OwnI B 105 9 w t2 (run q (s.Entries.length * 9))∧F=feet [t2]
section
variable {B B':Nat} {w w':World} {v:Value} {s s':DFeed} {F:List Nat} {q:Int}
theorem RdFeed.shape (h:RdFeed w v s):∃ a2 n2 k2,v=.agg #[.int .i64 s.Base,.int .i64 s.Last,.slice a2 n2 k2]:=by
 obtain⟨t2,rfl,h2⟩:=h
 obtain⟨a2,n2,k2,rfl⟩:=h2.shape
 exact⟨a2,n2,k2,rfl⟩
theorem OwFeed.rd (h:OwFeed B w v s F):RdFeed w v s:=let ⟨t2,e,h2,_⟩:=h;⟨t2,e,h2.ints⟩
theorem OwFeed.ext (h:OwFeed B w v s F) (x:Ext w w'):OwFeed B w' v s F:=let ⟨t2,e,h2,hF⟩:=h;⟨t2,e,Own.ext h2 x,hF⟩
theorem OwFeed.keep (h:OwFeed B w v s F) (x:Chg B w w'):OwFeed B w' v s F:=let ⟨t2,e,h2,hF⟩:=h;⟨t2,e,h2.keep x,hF⟩
theorem OwFeed.mono (h:OwFeed B w v s F) (x:B'≤B):OwFeed B' w v s F:=let ⟨t2,e,h2,hF⟩:=h;⟨t2,e,h2.mono x,hF⟩
theorem OwFeed.upd (h:OwFeed B w v s F) {fs:List Nat} (x:Upd w w' fs) (hn:∀ k,k ∈ F→k ∈ fs→False):OwFeed B w' v s F:=by
 obtain⟨t2,e,h2,rfl⟩:=h
 exact⟨t2,e,OwnI.upd' h2 x hn,rfl⟩
theorem OwFeed.low (h:OwFeed B w v s F):∀ k,k ∈ F→B≤k∧k<w.heap.size:=by
 obtain⟨t2,e,h2,rfl⟩:=h
 exact fun k hk=>h2.foot k hk
theorem MkFeed.ext (h:MkFeed B w v s F q) (x:Ext w w'):MkFeed B w' v s F q:=let ⟨t2,e,h2,hF⟩:=h;⟨t2,e,Own.ext h2 x,hF⟩
theorem MkFeed.upd (h:MkFeed B w v s F q) {fs:List Nat} (x:Upd w w' fs) (hn:∀ k,k ∈ F→k ∈ fs→False):MkFeed B w' v s F q:=by
 obtain⟨t2,e,h2,rfl⟩:=h
 exact⟨t2,e,OwnI.upd' h2 x hn,rfl⟩
end
end Go.Proofs.YtcnioiieiebodaaGreat
