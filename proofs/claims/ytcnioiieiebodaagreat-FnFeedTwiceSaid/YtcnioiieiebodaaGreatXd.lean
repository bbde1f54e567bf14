/- Contracts and plain laws: DL2 DL3 DF. -/
import Derived.Test.YtcnioiieiebodaaGreatYa
import Derived.Deep.DeepCutAuto
import Derived.Test.YtcnioiieiebodaaGreatXc
import Derived.Test.YtcnioiieiebodaaGreatXb
set_option linter.unusedSimpArgs false
set_option linter.unusedVariables false
set_option maxHeartbeats 8000000
set_option maxRecDepth 100000
namespace Go.Proofs.YtcnioiieiebodaaGreat
open Go.RowKit Go.G8
theorem l19Draw_c {B:Nat} {w:World} {g:Nat} (h:Cur B w g):Calls Tryz.prog 100 #[.pointer (some ⟨g,0,none⟩)] w (Dr B w g fun v w' => ∃ s:DStore,IsStore w.heap.size w' v s):=by
 have hc0:=h;have E0:Upd w w [g]:=Upd.refl _ _
 have hg0:=h.lt
 go_enter Tryz.func100,Tryz.ntmps100
 go_wp2_with fail
 refine (l19DrawLife_c (cU B)).mono ?_
 rintro e w1 ⟨_,rfl,X1,hc1,x,u,s,rfl,gs⟩
 have hz1:=X1.sz
 have E1:Upd w w1 [g]:=X1.up
 have KR1:Blk w1 w.heap.size 65 #[.slice none 0 0,.slice none 0 0,.int .i64 0,.int .i64 0,.slice none 0 0,.slice none 0 0,.int .i64 0,.int .i64 0,.int .i64 0,.int .i64 0,.int .i64 0,.int .i64 0]:=bU X1
 clear X1
 obtain ⟨CR1,FR1,LR1⟩:=KR1.cfl
 obtain ⟨az0,nz0,kz0,az1,nz1,kz1,az4,nz4,kz4,az5,nz5,kz5,rfl⟩:=gs.rd.shape
 have gS:=IsStore.mono (B':=w.heap.size) gs zT
 clear gs
 go_wp2_with fail
 refine bodyPost_ret (by simp [results,Tryz.results100,go_sem,CR1,FR1,LR1];try rfl) rfl ?_
 exact ⟨_,rfl,by exact updT,(by with_reducible refine Cur.ext ?_ (Ext.alloc (Ext.refl _) _);exact curT),s,gS.kp kpT⟩
section
variable {B B':Nat} {w w':World} {v t0 t1 x2 x3 t4 t5 x6 x7 x8 x9 x10 x11:Value} {s:DStore} {D:DDisk} {st:DState}
theorem IsStore.split (h:IsStore B w (.agg #[t0,t1,x2,x3,t4,t5,x6,x7,x8,x9,x10,x11]) s):IsDisk B w (.agg #[t0,t1]) s.Disk ∧ IsState B w (.agg #[x2,x3,t4,t5,x6,x7,x8]) s.State:=by
 obtain ⟨F,v0,v1,v4,v5,s0,s1,e,h0,h1,h4,h5,hd,hF⟩:=h
 injection e with e
 simp only [Array.mk.injEq,List.cons.injEq,and_true] at e
 obtain ⟨rfl,rfl,rfl,rfl,rfl,rfl,rfl,rfl,rfl,rfl,rfl,rfl⟩:=e
 exact ⟨⟨_,_,s0,s1,rfl,h0,h1,hd⟩,⟨_,_,rfl,h4,h5⟩⟩
theorem AnyStore.of (h:KrDisk B w (.agg #[t0,t1]) D) (k:IsState B w (.agg #[x2,x3,t4,t5,x6,x7,x8]) st) (n l b:Int):AnyStore B w (.agg #[t0,t1,x2,x3,t4,t5,x6,x7,x8,.int .i64 n,.int .i64 l,.int .i64 b]) ⟨D,st,n,l,b⟩:=by
 obtain ⟨u4,u5,e,k4,k5⟩:=k
 injection e with e
 simp only [Array.mk.injEq,List.cons.injEq,and_true] at e
 obtain ⟨rfl,rfl,rfl,rfl,rfl,rfl,rfl⟩:=e
 exact ⟨_,_,_,_,rfl,h,k4,k5⟩
end
theorem l19DrawAny_c {B:Nat} {w:World} {g:Nat} (h:Cur B w g):Calls Tryz.prog 59 #[.pointer (some ⟨g,0,none⟩)] w (Dr B w g fun v w' => ∃ s:DStore,AnyStore w.heap.size w' v s):=by
 have hc0:=h;have E0:Upd w w [g]:=Upd.refl _ _
 have hg0:=h.lt
 go_enter Tryz.func59,Tryz.ntmps59
 go_wp2_with fail
 refine (l19Draw_c (cU B)).mono ?_
 rintro e w1 ⟨_,rfl,X1,hc1,s,gs⟩
 have hz1:=X1.sz
 have E1:Upd w w1 [g]:=X1.up
 have KR1:Blk w1 w.heap.size 65 #[.slice none 0 0,.slice none 0 0,.int .i64 0,.int .i64 0,.slice none 0 0,.slice none 0 0,.int .i64 0,.int .i64 0,.int .i64 0,.int .i64 0,.int .i64 0,.int .i64 0]:=bU X1
 clear X1
 obtain ⟨CR1,FR1,LR1⟩:=KR1.cfl
 obtain ⟨az0,nz0,kz0,az1,nz1,kz1,az4,nz4,kz4,az5,nz5,kz5,rfl⟩:=gs.rd.shape
 obtain ⟨gK0,gS0⟩:=gs.split;clear gs
 have gK:=KrDisk.mono9 (B':=w.heap.size) gK0.kr zT
 have gS:=IsState.mono9 (B':=w.heap.size) gS0 zT
 clear gK0 gS0
 go_wp2_with fail
 refine (l1Once_c (cU B) 6).mono ?_
 rintro e w2 ⟨_,rfl,X2,hc2,b1,rfl⟩
 have P2:Kp w.heap.size boxTs w1 w2:=Kp.upd kpT X2 oM
 have gK:=gK.kp P2
 have gS:=gS.kp P2
 clear P2
 have hz2:=X2.sz
 have E2:Upd w w2 [g]:=X2.up
 have KR2:=KR1.upv X2
 have KD2:Blk w2 w1.heap.size 65 #[.slice az0 nz0 kz0,.slice az1 nz1 kz1,.int .i64 s.State.Index,.int .i64 s.State.Time,.slice az4 nz4 kz4,.slice az5 nz5 kz5,.int .i64 s.State.Lease.Holder,.int .i64 s.State.Lease.Epoch,.int .i64 s.State.Lease.Until,.int .i64 s.Num,.int .i64 s.Last,.int .i64 s.Busy]:=bU X2
 clear X2
 clear CR1 FR1 LR1
 obtain ⟨CR2,FR2,LR2⟩:=KR2.cfl
 obtain ⟨CD2,FD2,LD2⟩:=KD2.cfl
 cases b1
 rotate_left
 ·
  go_wp2_with fail
  refine (l1Below_c (cU B) 6).mono ?_
  rintro e w3 ⟨_,rfl,X3,hc3,m,rfl,pm,qm,rm⟩
  have P3:Kp w.heap.size boxTs w2 w3:=Kp.upd kpT X3 oM
  have gK:=gK.kp P3
  have gS:=gS.kp P3
  clear P3
  have hz3:=X3.sz
  have E3:Upd w w3 [g]:=X3.up
  have KR3:=KR2.upv X3
  have KD3:=KD2.upv X3
  clear X3
  clear CR2 FR2 LR2 CD2 FD2 LD2
  obtain ⟨CR3,FR3,LR3⟩:=KR3.cfl
  obtain ⟨CD3,FD3,LD3⟩:=KD3.cfl
  have qm:=qm dC;clear rm
  obtain rfl | rfl | rfl | rfl | rfl | rfl:m = 0 ∨ m = 1 ∨ m = 2 ∨ m = 3 ∨ m = 4 ∨ m = 5:=by omega
  ·
   go_wp2_with fail
   refine (l18DrawAnyShelf_c (cU B)).mono ?_
   rintro e w4 ⟨_,rfl,X4,hc4,d3,g3⟩
   have P4:Kp w.heap.size boxTs w3 w4:=Kp.upd kpT X4 oM
   have gK:=gK.kp P4
   have gS:=gS.kp P4
   clear P4
   have hz4:=X4.sz
   have E4:Upd w w4 [g]:=X4.up
   have KR4:=KR3.upv X4
   have KD4:=KD3.upv X4
   clear X4
   clear CR3 FR3 LR3 CD3 FD3 LD3
   obtain ⟨CR4,FR4,LR4⟩:=KR4.cfl
   obtain ⟨CD4,FD4,LD4⟩:=KD4.cfl
   obtain ⟨ab0,nb0,kb0,ab1,nb1,kb1,rfl⟩:=g3.rd.shape
   replace g3:=g3.mono9 (B':=w.heap.size) zT
   go_wp2_with fail
   refine bodyPost_ret (by simp [results,Tryz.results59,go_sem,CR4,FR4,LR4,CD4,FD4,LD4];try rfl) rfl ?_
   exact ⟨_,rfl,by exact updT,by exact curT,_,AnyStore.of (g3.kp kpT) (gS.kp kpT) _ _ _⟩
  ·
   go_wp2_with fail
   refine (l17DrawAny_c (cU B)).mono ?_
   rintro e w4 ⟨_,rfl,X4,hc4,s3,h3⟩
   have P4:Kp w.heap.size boxTs w3 w4:=Kp.upd kpT X4 oM
   have gK:=gK.kp P4
   have gS:=gS.kp P4
   clear P4
   have hz4:=X4.sz
   have E4:Upd w w4 [g]:=X4.up
   have KR4:=KR3.upv X4
   have KD4:=KD3.upv X4
   clear X4
   clear CR3 FR3 LR3 CD3 FD3 LD3
   obtain ⟨CR4,FR4,LR4⟩:=KR4.cfl
   obtain ⟨CD4,FD4,LD4⟩:=KD4.cfl
   replace h3:=IsState.mono9 (B':=w.heap.size) h3 zT
   have h39:=h3
   obtain ⟨t2,t3,rfl,h4,h5⟩:=h39
   obtain ⟨a4,n4,k4,rfl⟩:=h4.shape
   obtain ⟨a5,n5,k5,rfl⟩:=h5.shape
   clear h4 h5
   go_wp2_with fail
   refine bodyPost_ret (by simp [results,Tryz.results59,go_sem,CR4,FR4,LR4,CD4,FD4,LD4];try rfl) rfl ?_
   exact ⟨_,rfl,by exact updT,by exact curT,_,AnyStore.of (gK.kp kpT) (h3.kp kpT) _ _ _⟩
  ·
   go_wp2_with fail
   refine (l1Below_c (cU B) 5).mono ?_
   rintro e w4 ⟨_,rfl,X4,hc4,ui,rfl,pu,qu,ru⟩
   have P4:Kp w.heap.size boxTs w3 w4:=Kp.upd kpT X4 oM
   have gK:=gK.kp P4
   have gS:=gS.kp P4
   clear P4
   have hz4:=X4.sz
   have E4:Upd w w4 [g]:=X4.up
   have KR4:=KR3.upv X4
   have KD4:=KD3.upv X4
   have KPk4:Blk w4 w3.heap.size 2 #[.int .i64 (-1),.int .i64 0,.int .i64 1,.int .i64 1000000000,.int .i64 1000000001]:=bU X4
   clear X4
   clear CR3 FR3 LR3 CD3 FD3 LD3
   obtain ⟨CR4,FR4,LR4⟩:=KR4.cfl
   obtain ⟨CD4,FD4,LD4⟩:=KD4.cfl
   obtain ⟨CPk4,FPk4,LPk4⟩:=KPk4.cfl
   have qu:=qu dC;clear ru
   obtain ⟨u,hu⟩:∃ u:Int,w4.cell? ⟨w3.heap.size,ui.toNat,none⟩ = some (.int .i64 u):=by
    rw [KPk4.cell]
    have:ui.toNat < 5:=by omega
    exact pick_int [-1,0,1,1000000000,1000000001] this
   clear CPk4
   go_wp2_with fail
   refine bodyPost_ret (by simp [results,Tryz.results59,go_sem,CR4,FR4,LR4,CD4,FD4,LD4,FPk4,LPk4,hu];try rfl) rfl ?_
   exact ⟨_,rfl,by exact updT,by exact curT,_,AnyStore.of (gK.kp kpT) (gS.kp kpT) _ _ _⟩
  ·
   go_wp2_with fail
   refine (l1Num_c (cU B) 20 oM oM).mono ?_
   rintro e w4 ⟨_,rfl,X4,hc4,u,rfl⟩
   have P4:Kp w.heap.size boxTs w3 w4:=Kp.upd kpT X4 oM
   have gK:=gK.kp P4
   have gS:=gS.kp P4
   clear P4
   have hz4:=X4.sz
   have E4:Upd w w4 [g]:=X4.up
   have KR4:=KR3.upv X4
   have KD4:=KD3.upv X4
   clear X4
   clear CR3 FR3 LR3 CD3 FD3 LD3
   obtain ⟨CR4,FR4,LR4⟩:=KR4.cfl
   obtain ⟨CD4,FD4,LD4⟩:=KD4.cfl
   go_wp2_with fail
   refine bodyPost_ret (by simp [results,Tryz.results59,go_sem,CR4,FR4,LR4,CD4,FD4,LD4];try rfl) rfl ?_
   exact ⟨_,rfl,by exact updT,by exact curT,_,AnyStore.of (gK.kp kpT) (gS.kp kpT) _ _ _⟩
  ·
   go_wp2_with fail
   refine (l1Num_c (cU B) 20 oM oM).mono ?_
   rintro e w4 ⟨_,rfl,X4,hc4,u,rfl⟩
   have P4:Kp w.heap.size boxTs w3 w4:=Kp.upd kpT X4 oM
   have gK:=gK.kp P4
   have gS:=gS.kp P4
   clear P4
   have hz4:=X4.sz
   have E4:Upd w w4 [g]:=X4.up
   have KR4:=KR3.upv X4
   have KD4:=KD3.upv X4
   clear X4
   clear CR3 FR3 LR3 CD3 FD3 LD3
   obtain ⟨CR4,FR4,LR4⟩:=KR4.cfl
   obtain ⟨CD4,FD4,LD4⟩:=KD4.cfl
   go_wp2_with fail
   refine bodyPost_ret (by simp [results,Tryz.results59,go_sem,CR4,FR4,LR4,CD4,FD4,LD4];try rfl) rfl ?_
   exact ⟨_,rfl,by exact updT,by exact curT,_,AnyStore.of (gK.kp kpT) (gS.kp kpT) _ _ _⟩
  go_wp2_with fail
  refine (l1Below_c (cU B) 2).mono ?_
  rintro e w4 ⟨_,rfl,X4,hc4,x,rfl,px,qx,rx⟩
  have P4:Kp w.heap.size boxTs w3 w4:=Kp.upd kpT X4 oM
  have gK:=gK.kp P4
  have gS:=gS.kp P4
  clear P4
  have hz4:=X4.sz
  have E4:Upd w w4 [g]:=X4.up
  have KR4:=KR3.upv X4
  have KD4:=KD3.upv X4
  clear X4
  clear CR3 FR3 LR3 CD3 FD3 LD3
  obtain ⟨CR4,FR4,LR4⟩:=KR4.cfl
  obtain ⟨CD4,FD4,LD4⟩:=KD4.cfl
  have qx:=qx dC;clear rx
  go_wp2_with fail
  refine (l17Draw_c (cU B)).mono ?_
  rintro e w5 ⟨_,rfl,X5,hc5,s3,h3⟩
  have P5:Kp w.heap.size boxTs w4 w5:=Kp.upd kpT X5 oM
  have gK:=gK.kp P5
  have gS:=gS.kp P5
  clear P5
  have hz5:=X5.sz
  have E5:Upd w w5 [g]:=X5.up
  have KR5:=KR4.upv X5
  have KD5:Blk w5 w1.heap.size 65 #[.slice az0 nz0 kz0,.slice az1 nz1 kz1,.int .i64 s.State.Index,.int .i64 s.State.Time,.slice az4 nz4 kz4,.slice az5 nz5 kz5,.int .i64 s.State.Lease.Holder,.int .i64 s.State.Lease.Epoch,.int .i64 s.State.Lease.Until,.int .i64 (1000000000 - x),.int .i64 s.Last,.int .i64 s.Busy]:=bU X5
  clear X5
  clear CR4 FR4 LR4 CD4 FD4 LD4
  obtain ⟨CR5,FR5,LR5⟩:=KR5.cfl
  obtain ⟨CD5,FD5,LD5⟩:=KD5.cfl
  replace h3:=IsState.mono9 (B':=w.heap.size) h3 zT
  have h39:=h3
  obtain ⟨t2,t3,rfl,h4,h5⟩:=h39
  obtain ⟨a4,n4,k4,rfl⟩:=h4.shape
  obtain ⟨a5,n5,k5,rfl⟩:=h5.shape
  clear h4 h5
  go_wp2_with fail
  refine (l1Min_c _ _).mono ?_
  rintro e9 w9 ⟨rfl,rfl⟩
  go_wp2_with fail
  refine bodyPost_ret (by simp [results,Tryz.results59,go_sem,CR5,FR5,LR5,CD5,FD5,LD5];try rfl) rfl ?_
  exact ⟨_,rfl,by exact updT,by exact curT,_,AnyStore.of (gK.kp kpT) (h3.kp kpT) _ _ _⟩
 go_wp2_with fail
 refine bodyPost_ret (by simp [results,Tryz.results59,go_sem,CR2,FR2,LR2,CD2,FD2,LD2];try rfl) rfl ?_
 exact ⟨_,rfl,by exact updT,by exact curT,_,AnyStore.of (gK.kp kpT) (gS.kp kpT) _ _ _⟩
theorem l19DrawFeed_c {B:Nat} {w:World} {g:Nat} (h:Cur B w g) {M:Nat} (hM:g < M) {t:Value} {s:DState} (hs:IsState M w t s) (hMw:M ≤ w.heap.size):Calls Tryz.prog 60 #[.pointer (some ⟨g,0,none⟩),t] w (Dr B w g fun v w' => ∃ (b l:Int) (u:Value) (L:List DEntry),v = .agg #[.int .i64 b,.int .i64 l,u] ∧ OwnI w.heap.size 105 9 w' u (flEntry L)):=by
 obtain ⟨t2,t3,rfl,h2,h3⟩:=hs
 obtain ⟨a2,n2,k2,rfl⟩:=h2.shape
 obtain ⟨a3,n3,k3,rfl⟩:=h3.shape
 have Op0:=h2;have Oj0:=h3;clear h2 h3
 have hc0:=h;have E0:Upd w w [g]:=Upd.refl _ _
 have hg0:=h.lt
 go_enter Tryz.func60,Tryz.ntmps60
 go_wp2_with fail
 go_cut [5] (fun cx0 wx => ∃ al:Option Addr,∃ nl:Nat,∃ kl:Nat,∃ L:List DEntry,cx0 = .slice al nl kl ∧ OwnI w.heap.size 105 9 wx (.slice al nl kl) (flEntry L) ∧ Upd w wx [g] ∧ Cur B wx g ∧ Blk wx w.heap.size 63 #[.int .i64 s.Index,.int .i64 s.Time,.slice a2 n2 k2,.slice a3 n3 k3,.int .i64 s.Lease.Holder,.int .i64 s.Lease.Epoch,.int .i64 s.Lease.Until] ∧ Blk wx (w.heap.size + 1) 68 #[.int .i64 0,.int .i64 0,.slice none 0 0] ∧ OwnI M 157 2 wx (.slice a2 n2 k2) (flPair s.Pairs) ∧ OwnI M 142 5 wx (.slice a3 n3 k3) (flJob s.Jobs))
 case first =>
  refine wp_region_held_drew (S:=fun w' => Upd w w' [g] ∧ Cur B w' g ∧ Blk w' w.heap.size 63 #[.int .i64 s.Index,.int .i64 s.Time,.slice a2 n2 k2,.slice a3 n3 k3,.int .i64 s.Lease.Holder,.int .i64 s.Lease.Epoch,.int .i64 s.Lease.Until]) (by kernel_rfl) (by (try dsimp only);exact ⟨(by exact updT),(by exact curT),bC⟩) (fun hHeld => ?_)
  refine wt 0 ?_
  (try simp only [redA,Act.put])
  refine wtq 1 (fun _ h => h.2.2.cell) ?_
  (try simp only [redA,Act.put])
  refine wt 2 ?_
  (try simp only [redA,Act.put])
  refine wr2 3 8 (fun Kz hKz => ?_) fun Kz hKz => ?_
  ·
   (try simp only [redA])
   go_simp
   go_at_call 30
   refine (l1Below_c (cU B) 4).mono ?_
   rintro e w1 ⟨_,rfl,X1,hc1,x,rfl,px,qx,rx⟩
   have hz1:=X1.sz
   have E1:Upd w w1 [g]:=X1.up
   have KS1:Blk w1 w.heap.size 63 #[.int .i64 s.Index,.int .i64 s.Time,.slice a2 n2 k2,.slice a3 n3 k3,.int .i64 s.Lease.Holder,.int .i64 s.Lease.Epoch,.int .i64 s.Lease.Until]:=bU X1
   have KR1:Blk w1 (w.heap.size + 1) 68 #[.int .i64 0,.int .i64 0,.slice none 0 0]:=bU X1
   have Op1:OwnI M 157 2 w1 (.slice a2 n2 k2) (flPair s.Pairs):=OwnI.drawn (ow_en Op0) X1 oM
   have Oj1:OwnI M 142 5 w1 (.slice a3 n3 k3) (flJob s.Jobs):=OwnI.drawn (ow_en Oj0) X1 oM
   clear X1
   obtain ⟨CS1,FS1,LS1⟩:=KS1.cfl
   obtain ⟨CR1,FR1,LR1⟩:=KR1.cfl
   refine hKz.o3 fun hHeld => ?_
   clear hKz Kz
   (try simp only [redA,Act.put])
   refine wr2 4 8 (fun Kz hKz => ?_) fun Kz hKz => ?_
   ·
    (try simp only [redA])
    have qx:=qx dC;clear rx
    obtain ⟨N2,rfl⟩:=Int.eq_ofNat_of_zero_le px
    go_simp
    go_at_call 103
    refine (drawEntries_c (cU B) (M:=M) hM (s:=s) ⟨_,_,rfl,(show OwnI M 157 2 _ (.slice a2 n2 k2) (flPair s.Pairs) from by exact ownT),(show OwnI M 142 5 _ (.slice a3 n3 k3) (flJob s.Jobs) from by exact ownT)⟩ zT N2 oM).mono ?_
    rintro e w2 ⟨_,rfl,X2,hc2,u2,x2,L,s2,rfl,Ol2,hl2,hs2,hok2⟩
    have hz2:=X2.sz
    have E2:Upd w w2 [g]:=X2.up
    have KS2:=KS1.upv X2
    have KR2:=KR1.upv X2
    have Op2:=OwnI.drawn (ow_ex0x1n Op1 KS1 KR1) X2 oM
    have Oj2:=OwnI.drawn (ow_ex0x1n Oj1 KS1 KR1) X2 oM
    clear X2
    clear CS1 FS1 LS1 CR1 FR1 LR1
    obtain ⟨CS2,FS2,LS2⟩:=KS2.cfl
    obtain ⟨CR2,FR2,LR2⟩:=KR2.cfl
    obtain ⟨t4,t5,rfl,h4,h5⟩:=hs2
    obtain ⟨a4,n4,k4,rfl⟩:=h4.shape
    obtain ⟨a5,n5,k5,rfl⟩:=h5.shape
    clear h4 h5 hok2
    obtain ⟨al,nl,kl,rfl⟩:=Ol2.shape
    have Oe2:=OwnI.mono (B':=w.heap.size) Ol2 zT
    clear Ol2
    refine hKz.o3 fun hHeld => ?_
    clear hKz Kz
    (try simp only [redA,Act.put])
    refine wt 5 ?_
    (try simp only [redA,Act.put])
    refine wt 6 ?_
    (try simp only [redA,Act.put])
    refine wt 7 ?_
    (try simp only [redA,Act.put])
    refine wr1 8 fun Kz hKz => ?_
    (try simp only [redA])
    go_simp
    refine hKz.o3 fun hHeld => ?_
    clear hKz Kz
    (try simp only [redA,Act.put])
    refine wt 9 ?_
    (try simp only [redA,Act.put])
    refine wr1 10 fun Kz hKz => ?_
    (try simp only [redA])
    go_simp
    refine hKz.o3 fun hHeld => ?_
    clear hKz Kz
    (try simp only [redA,Act.put])
    refine wpAnyH_done (by kernel_rfl) ?_ _
    go_wp2_with fail
    go_meet
    case rel => exact ⟨_,_,_,_,(by first | rfl | trivial),(ow_edx0x1 Oe2 KS2 KR2),(by exact updT),(by exact curT),bC,bC,(ow_edx0x1 Op2 KS2 KR2),(ow_edx0x1 Oj2 KS2 KR2)⟩
   (try simp only [redA])
   go_simp
   refine hKz.o3 fun hHeld => ?_
   clear hKz Kz
   (try simp only [redA,Act.put])
   refine wr1 4 fun Kz hKz => ?_
   (try simp only [redA])
   have qx:=qx dC;clear rx
   obtain ⟨N2,rfl⟩:=Int.eq_ofNat_of_zero_le px
   go_simp
   go_at_call 103
   refine (drawEntries_c (cU B) (M:=M) hM (s:=s) ⟨_,_,rfl,(show OwnI M 157 2 _ (.slice a2 n2 k2) (flPair s.Pairs) from by exact ownT),(show OwnI M 142 5 _ (.slice a3 n3 k3) (flJob s.Jobs) from by exact ownT)⟩ zT N2 oM).mono ?_
   rintro e w2 ⟨_,rfl,X2,hc2,u2,x2,L,s2,rfl,Ol2,hl2,hs2,hok2⟩
   have hz2:=X2.sz
   have E2:Upd w w2 [g]:=X2.up
   have KS2:=KS1.upv X2
   have KR2:=KR1.upv X2
   have KD2:Blk w2 w1.heap.size 63 #[.int .i64 0,.int .i64 0,.slice none 0 0,.slice none 0 0,.int .i64 0,.int .i64 0,.int .i64 0]:=bU X2
   have Op2:=OwnI.drawn (ow_ex0x1n Op1 KS1 KR1) X2 oM
   have Oj2:=OwnI.drawn (ow_ex0x1n Oj1 KS1 KR1) X2 oM
   clear X2
   clear CS1 FS1 LS1 CR1 FR1 LR1
   obtain ⟨CS2,FS2,LS2⟩:=KS2.cfl
   obtain ⟨CR2,FR2,LR2⟩:=KR2.cfl
   obtain ⟨CD2,FD2,LD2⟩:=KD2.cfl
   obtain ⟨t4,t5,rfl,h4,h5⟩:=hs2
   obtain ⟨a4,n4,k4,rfl⟩:=h4.shape
   obtain ⟨a5,n5,k5,rfl⟩:=h5.shape
   clear h4 h5 hok2
   obtain ⟨al,nl,kl,rfl⟩:=Ol2.shape
   have Oe2:=OwnI.mono (B':=w.heap.size) Ol2 zT
   clear Ol2
   refine hKz.o3 fun hHeld => ?_
   clear hKz Kz
   (try simp only [redA,Act.put])
   refine wt 5 ?_
   (try simp only [redA,Act.put])
   refine wt 6 ?_
   (try simp only [redA,Act.put])
   refine wt 7 ?_
   (try simp only [redA,Act.put])
   refine wt 9 ?_
   (try simp only [redA,Act.put])
   refine wr1 10 fun Kz hKz => ?_
   (try simp only [redA])
   go_simp
   refine hKz.o3 fun hHeld => ?_
   clear hKz Kz
   (try simp only [redA,Act.put])
   refine wpAnyH_done (by kernel_rfl) ?_ _
   go_wp2_with fail
   go_meet
   case rel => exact ⟨_,_,_,_,(by first | rfl | trivial),(ow_edx0x1x2 Oe2 KS2 KR2 KD2),(by exact updT),(by exact curT),bC,bC,(ow_edx0x1x2 Op2 KS2 KR2 KD2),(ow_edx0x1x2 Oj2 KS2 KR2 KD2)⟩
  (try simp only [redA])
  go_simp
  refine hKz.o3 fun hHeld => ?_
  clear hKz Kz
  (try simp only [redA,Act.put])
  refine wr1 3 fun Kz hKz => ?_
  (try simp only [redA])
  go_simp
  go_at_call 30
  refine (l1Below_c (cU B) 4).mono ?_
  rintro e w1 ⟨_,rfl,X1,hc1,x,rfl,px,qx,rx⟩
  have hz1:=X1.sz
  have E1:Upd w w1 [g]:=X1.up
  have KS1:Blk w1 w.heap.size 63 #[.int .i64 s.Index,.int .i64 s.Time,.slice a2 n2 k2,.slice a3 n3 k3,.int .i64 s.Lease.Holder,.int .i64 s.Lease.Epoch,.int .i64 s.Lease.Until]:=bU X1
  have KR1:Blk w1 (w.heap.size + 1) 68 #[.int .i64 0,.int .i64 0,.slice none 0 0]:=bU X1
  have KD1:Blk w1 (w.heap.size + 1 + 1) 63 #[.int .i64 0,.int .i64 0,.slice none 0 0,.slice none 0 0,.int .i64 0,.int .i64 0,.int .i64 0]:=bU X1
  have Op1:OwnI M 157 2 w1 (.slice a2 n2 k2) (flPair s.Pairs):=OwnI.drawn (ow_en Op0) X1 oM
  have Oj1:OwnI M 142 5 w1 (.slice a3 n3 k3) (flJob s.Jobs):=OwnI.drawn (ow_en Oj0) X1 oM
  clear X1
  obtain ⟨CS1,FS1,LS1⟩:=KS1.cfl
  obtain ⟨CR1,FR1,LR1⟩:=KR1.cfl
  obtain ⟨CD1,FD1,LD1⟩:=KD1.cfl
  refine hKz.o3 fun hHeld => ?_
  clear hKz Kz
  (try simp only [redA,Act.put])
  refine wr1 4 fun Kz hKz => ?_
  (try simp only [redA])
  have qx:=qx dC;clear rx
  obtain ⟨N2,rfl⟩:=Int.eq_ofNat_of_zero_le px
  go_simp
  go_at_call 103
  refine (drawEntries_c (cU B) (M:=M) hM (s:=s) ⟨_,_,rfl,(show OwnI M 157 2 _ (.slice a2 n2 k2) (flPair s.Pairs) from by exact ownT),(show OwnI M 142 5 _ (.slice a3 n3 k3) (flJob s.Jobs) from by exact ownT)⟩ zT N2 oM).mono ?_
  rintro e w2 ⟨_,rfl,X2,hc2,u2,x2,L,s2,rfl,Ol2,hl2,hs2,hok2⟩
  have hz2:=X2.sz
  have E2:Upd w w2 [g]:=X2.up
  have KS2:=KS1.upv X2
  have KR2:=KR1.upv X2
  have KD2:=KD1.upv X2
  have Op2:=OwnI.drawn (ow_ex0x1x2n Op1 KS1 KR1 KD1) X2 oM
  have Oj2:=OwnI.drawn (ow_ex0x1x2n Oj1 KS1 KR1 KD1) X2 oM
  clear X2
  clear CS1 FS1 LS1 CR1 FR1 LR1 CD1 FD1 LD1
  obtain ⟨CS2,FS2,LS2⟩:=KS2.cfl
  obtain ⟨CR2,FR2,LR2⟩:=KR2.cfl
  obtain ⟨CD2,FD2,LD2⟩:=KD2.cfl
  obtain ⟨t4,t5,rfl,h4,h5⟩:=hs2
  obtain ⟨a4,n4,k4,rfl⟩:=h4.shape
  obtain ⟨a5,n5,k5,rfl⟩:=h5.shape
  clear h4 h5 hok2
  obtain ⟨al,nl,kl,rfl⟩:=Ol2.shape
  have Oe2:=OwnI.mono (B':=w.heap.size) Ol2 zT
  clear Ol2
  refine hKz.o3 fun hHeld => ?_
  clear hKz Kz
  (try simp only [redA,Act.put])
  refine wt 5 ?_
  (try simp only [redA,Act.put])
  refine wt 6 ?_
  (try simp only [redA,Act.put])
  refine wt 7 ?_
  (try simp only [redA,Act.put])
  refine wt 9 ?_
  (try simp only [redA,Act.put])
  refine wr1 10 fun Kz hKz => ?_
  (try simp only [redA])
  go_simp
  refine hKz.o3 fun hHeld => ?_
  clear hKz Kz
  (try simp only [redA,Act.put])
  refine wpAnyH_done (by kernel_rfl) ?_ _
  go_wp2_with fail
  go_meet
  case rel => exact ⟨_,_,_,_,(by first | rfl | trivial),(ow_edx0x1x2 Oe2 KS2 KR2 KD2),(by exact updT),(by exact curT),bC,bC,(ow_edx0x1x2 Op2 KS2 KR2 KD2),(ow_edx0x1x2 Oj2 KS2 KR2 KD2)⟩
 revert wc;intro w1 hcut
 obtain ⟨al,nl,kl,L,rfl,Oe1,E1,hc1,KS1,KR1,Op1,Oj1⟩:=hcut
 have hz1:=E1.size
 obtain ⟨CS1,FS1,LS1⟩:=KS1.cfl
 obtain ⟨CR1,FR1,LR1⟩:=KR1.cfl
 clear Op1 Oj1
 obtain ⟨hnl,hkl,hkm⟩:=entries_cut Oe1
 unfold maxLen at hkm
 have Hnl:=Lib.hid hnl;clear hnl
 rcases Nat.eq_zero_or_pos nl with h00 | h00
 ·
  subst h00
  have hd0:decide (0 < ((0:Nat):Int)) = false:=by simp
  go_wp2_with fail
  refine (l1Below_c (cU B) _).mono ?_
  rintro e w2 ⟨_,rfl,X2,hc2,bs,rfl,pb,qb,rb⟩
  have hz2:=X2.sz
  have E2:Upd w w2 [g]:=X2.up
  have KS2:Blk w2 w.heap.size 63 #[.int .i64 s.Index,.int .i64 s.Time,.slice a2 n2 k2,.slice a3 n3 k3,.int .i64 s.Lease.Holder,.int .i64 s.Lease.Epoch,.int .i64 s.Lease.Until]:=bU X2
  have KR2:Blk w2 (w.heap.size + 1) 68 #[.int .i64 0,.int .i64 0,.slice none 0 0]:=bU X2
  have Oe2:OwnI w.heap.size 105 9 w2 (.slice al 0 kl) (flEntry L):=OwnI.drawn (ow_ex0x1n Oe1 KS1 KR1) X2 oM
  clear X2
  clear CS1 FS1 LS1 CR1 FR1 LR1
  obtain ⟨CS2,FS2,LS2⟩:=KS2.cfl
  obtain ⟨CR2,FR2,LR2⟩:=KR2.cfl
  go_wp2_with fail
  refine bodyPost_ret (by simp [results,Tryz.results60,go_sem,CS2,FS2,LS2,CR2,FR2,LR2];try rfl) rfl ?_
  exact ⟨_,rfl,by exact updT,by exact curT,_,_,_,L,rfl,(ow_edx0x1 Oe2 KS2 KR2)⟩
 have hd0:decide (0 < (nl:Int)) = true:=by simp;omega
 obtain ⟨ta,tn,tc,hs,hl0,hcc,hm0,hor⟩:=Own.open_ Oe1
 injection hs with hs1 hs2 hs3;subst hs1;subst hs2;subst hs3
 rcases hor with h01 | ⟨X,cur,rfl,hXB,hX,hXs,hXp⟩
 ·
  omega
 clear hXs hXp
 obtain ⟨q,hq⟩:∃ q:Nat,nl = q + 1:=⟨nl - 1,by omega⟩
 have hqL:q < L.length:=by have:=Hnl.out;omega
 have e1:IntKind.i64.wrap ((nl:Int) - 1) = (q:Int):=by rw [IntKind.wrap_i64] <;> omega
 have e2:(nl:Int) - 1 = (q:Int):=by omega
 have HQ:=Lib.hid hq;clear hq
 have hqn:q < nl:=by have:=HQ.out;omega
 obtain ⟨cure1,KXe1⟩:=Own.typed' Oe1 (X:=X) rfl
 have FXe1:=KXe1.frozen;have LXe1:=KXe1.lt
 obtain ⟨_,_,hsle,_,_,hrec⟩:=Oe1.ints.recs (f:=DEntry.ints) (fun _ => rfl) dC
 obtain ⟨dde,bbe,ooe,hdde,hbae,_,hcce⟩:=hrec q oM
 injection hsle with hs1 hs2 hs3
 rw [← hs1] at hbae;injection hbae with hbae;injection hbae with hb1 hb2;subst hb1;subst hb2;clear hs1 hs2 hs3 hrec
 have hcee0:=hcce 0 _ dC rfl;(try simp only [Nat.zero_mul,Nat.zero_add,Nat.add_zero] at hcee0)
 clear hcce
 try simp only [← Hnl.out] at hcee0
 go_wp2_with fail
 refine (l1Below_c (cU B) _).mono ?_
 rintro e w2 ⟨_,rfl,X2,hc2,bs,rfl,pb,qb,rb⟩
 have hz2:=X2.sz
 have E2:Upd w w2 [g]:=X2.up
 have KS2:Blk w2 w.heap.size 63 #[.int .i64 s.Index,.int .i64 s.Time,.slice a2 n2 k2,.slice a3 n3 k3,.int .i64 s.Lease.Holder,.int .i64 s.Lease.Epoch,.int .i64 s.Lease.Until]:=bU X2
 have KR2:Blk w2 (w.heap.size + 1) 68 #[.int .i64 0,.int .i64 0,.slice none 0 0]:=bU X2
 have Oe2:OwnI w.heap.size 105 9 w2 (.slice (some ⟨X,0,none⟩) nl kl) (flEntry L):=OwnI.drawn (ow_ex0x1n Oe1 KS1 KR1) X2 oM
 clear X2
 clear CS1 FS1 LS1 CR1 FR1 LR1 FXe1 LXe1 hcee0
 obtain ⟨CS2,FS2,LS2⟩:=KS2.cfl
 obtain ⟨CR2,FR2,LR2⟩:=KR2.cfl
 go_wp2_with fail
 refine bodyPost_ret (by simp [results,Tryz.results60,go_sem,CS2,FS2,LS2,CR2,FR2,LR2];try rfl) rfl ?_
 exact ⟨_,rfl,by exact updT,by exact curT,_,_,_,L,rfl,(ow_edx0x1 Oe2 KS2 KR2)⟩
end Go.Proofs.YtcnioiieiebodaaGreat
