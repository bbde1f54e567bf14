/- Contracts and plain laws: OwR DHF. -/
import Derived.Test.YtcnioiieiebodaaGreatYa
import Derived.Test.YtcnioiieiebodaaGreatYe
import Derived.Deep.DeepCutAuto
import Derived.Test.YtcnioiieiebodaaGreatXd
import Derived.Test.YtcnioiieiebodaaGreatYp
import Derived.Test.YtcnioiieiebodaaGreatXe
set_option linter.unusedSimpArgs false
set_option linter.unusedVariables false
set_option maxHeartbeats 8000000
set_option maxRecDepth 100000
namespace Go.G8
open Go.RowKit
theorem OwnI.boxQ {B:Nat} {e:TypeId} {n:Nat} {w:World} {v:Value} {xs:List Int} (h:OwnI B e n w v xs) {X:Nat} {t:TypeId} {a:Array Value} (hX:Blk w X t a) (h1:t ≠ e) (i:Nat) (u:Value):OwnI B e n (w.setCell ⟨X,i,none⟩ u) v xs :=
 OwnI.upd' h ((Upd.refl w [X]).setCell (by simp) _) (fun k hk hf => by
  obtain ⟨cur,hb⟩:=h.typed hk
  simp at hf;subst hf
  exact h1 (hX.same hb))
theorem OwnI.drewQ {B:Nat} {e:TypeId} {n:Nat} {w:World} {v:Value} {xs:List Int} (h:OwnI B e n w v xs):OwnI B e n w.drew v xs:=Own.ext h (Ext.drew (Ext.refl _))
theorem OwnI.drewNQ {B:Nat} {e:TypeId} {n:Nat} {w:World} {v:Value} {xs:List Int} (h:OwnI B e n w v xs) (k:Nat):OwnI B e n (w.drewN k) v xs:=Own.ext h (Ext.drewN (Ext.refl _) _)
theorem OwnI.allocQ {B:Nat} {e:TypeId} {n:Nat} {w:World} {v:Value} {xs:List Int} (h:OwnI B e n w v xs) (o:Obj):OwnI B e n (w.alloc o) v xs:=Own.ext h ((Ext.refl _).alloc _)
theorem OwnI.rowQ {B:Nat} {e:TypeId} {n:Nat} {w:World} {v:Value} {xs:List Int} (h:OwnI B e n w v xs) {X:Nat} {t:TypeId} {a:Array Value} (hX:Blk w X t a) (h1:t ≠ e) (cs:Array Value):OwnI B e n (w.setRow X cs) v xs :=
 OwnI.upd' h (fs:=[X]) ⟨rfl,rfl,rfl,by rw [size_setRow];exact Nat.le_refl _,fun k _ hn => heap_setRow_ne w cs (fun e => hn (by simp [e]))⟩ (fun k hk hf => by
  obtain ⟨cur,hb⟩:=h.typed hk
  simp at hf;subst hf
  exact h1 (hX.same hb))
theorem ownR {B:Nat} {e:TypeId} {n:Nat} {w:World} {v:Value} {xs:List Int} (h:OwnI B e n w v xs:=by ((repeat' (first | (with_reducible assumption) | (with_reducible refine OwnI.drewQ ?_) | (with_reducible refine OwnI.drewNQ ?_ _) | (with_reducible refine OwnI.allocQ ?_ _) | (with_reducible refine OwnI.boxQ ?_ blkT dC _ _) | (with_reducible refine OwnI.rowQ ?_ blkT dC _)));first | done | fail)):OwnI B e n w v xs:=h
end Go.G8
namespace Go.Proofs.YtcnioiieiebodaaGreat
open Go.RowKit Go.G8
section
variable {B:Nat} {w:World} {t0 t1 x2 x3 t4 t5 x6 x7 x8 x9 x10 x11:Value} {s:DStore}
theorem AnyStore.state (h:AnyStore B w (.agg #[t0,t1,x2,x3,t4,t5,x6,x7,x8,x9,x10,x11]) s):IsState B w (.agg #[x2,x3,t4,t5,x6,x7,x8]) s.State:=by
 obtain ⟨v0,v1,v4,v5,e,-,h4,h5⟩:=h
 injection e with e
 simp only [Array.mk.injEq,List.cons.injEq,and_true] at e
 obtain ⟨rfl,rfl,rfl,rfl,rfl,rfl,rfl,rfl,rfl,rfl,rfl,rfl⟩:=e
 exact ⟨_,_,rfl,h4,h5⟩
end
theorem flEntry_set9 {l:List DEntry} {i:Nat} (h:i < l.length) {a b c d e f g j k:Int}:(((((((((flEntry l).set (i * 9) a).set (i * 9 + 1) b).set (i * 9 + 2) c).set (i * 9 + 3) d).set (i * 9 + 4) e).set (i * 9 + 5) f).set (i * 9 + 6) g).set (i * 9 + 7) j).set (i * 9 + 8) k = flEntry (l.set i ⟨a,b,c,d,⟨e,f,g,j,k⟩⟩):=by
 induction l generalizing i with
 | nil => simp at h
 | cons x t ih =>
  cases i with
  | zero => simp [flEntry,DEntry.ints]
  | succ i =>
   have h':i < t.length:=by simpa using h
   have h2:=ih h'
   have e1:flEntry (x :: t) = DEntry.ints x ++ flEntry t:=rfl
   have e2:flEntry ((x :: t).set (i + 1) ⟨a,b,c,d,⟨e,f,g,j,k⟩⟩) = DEntry.ints x ++ flEntry (t.set i ⟨a,b,c,d,⟨e,f,g,j,k⟩⟩):=rfl
   have hl:(DEntry.ints x).length = 9:=rfl
   rw [e1,e2,← h2]
   have st:∀ (y:List Int) (q:Nat) (u:Int),(DEntry.ints x ++ y).set ((i + 1) * 9 + q) u = DEntry.ints x ++ y.set (i * 9 + q) u:=by
    intro y q u
    rw [List.set_append_right _ _ (by rw [hl];omega),hl]
    congr 2;omega
   have s0:=st (flEntry t) 0 a
   simp only [Nat.add_zero] at s0
   rw [s0,st,st,st,st,st,st,st,st]
theorem drawHeardFeed_c {wo:World} {v:Value} (h:Bytes wo v):Calls Tryz.prog 22 #[v] wo (Ret wo fun v w' => ∃ s f x y,v = .tuple #[x,y] ∧ RdStore w' x s ∧ RdFeed w' y f):=by
 go_enter Tryz.func22,Tryz.ntmps22
 go_wp2_with fail
 refine (l1New_c (h.ext (by exact extT))).mono ?_
 rintro e w ⟨_,rfl,hx0,g,rfl,hc0⟩
 have KR0:Blk w wo.heap.size 65 #[.slice none 0 0,.slice none 0 0,.int .i64 0,.int .i64 0,.slice none 0 0,.slice none 0 0,.int .i64 0,.int .i64 0,.int .i64 0,.int .i64 0,.int .i64 0,.int .i64 0]:=Blk.ext (by exact blkT) hx0
 have KQ0:Blk w (wo.heap.size + 1) 68 #[.int .i64 0,.int .i64 0,.slice none 0 0]:=Blk.ext (by exact blkT) hx0
 have X0:Ext wo w:=Ext.trans (by exact extT) hx0
 have hz0:=hx0.size;(try simp only [World.size_alloc] at hz0)
 simp only [World.size_alloc] at hc0
 have hg0:=hc0.lt
 clear hx0
 obtain ⟨B,hB⟩:∃ B,B = wo.heap.size + 1 + 1:=⟨_,rfl⟩
 rw [← hB] at hc0
 have E0:Upd w w [g]:=Upd.refl _ _
 have hgM:g < w.heap.size:=by omega
 go_wp2_with fail
 refine (l19DrawAny_c (cU B)).mono ?_
 rintro e w1 ⟨_,rfl,X1,hc1,s,gs⟩
 have hz1:=X1.sz
 have E1:Upd w w1 [g]:=X1.up
 have KR1:Blk w1 wo.heap.size 65 #[.slice none 0 0,.slice none 0 0,.int .i64 0,.int .i64 0,.slice none 0 0,.slice none 0 0,.int .i64 0,.int .i64 0,.int .i64 0,.int .i64 0,.int .i64 0,.int .i64 0]:=bU X1
 have KQ1:Blk w1 (wo.heap.size + 1) 68 #[.int .i64 0,.int .i64 0,.slice none 0 0]:=bU X1
 clear X1
 obtain ⟨CR1,FR1,LR1⟩:=KR1.cfl
 obtain ⟨CQ1,FQ1,LQ1⟩:=KQ1.cfl
 replace gs:=AnyStore.mono9 (B':=w.heap.size) gs zT
 obtain ⟨az0,nz0,kz0,az1,nz1,kz1,az4,nz4,kz4,az5,nz5,kz5,rfl⟩:=gs.rd.shape
 go_wp2_with fail
 refine (l19DrawFeed_c (cU B) hgM (s:=s.State) (show IsState _ _ _ _ from (gs.kp kpT).state) zT).mono ?_
 rintro e w2 ⟨_,rfl,X2,hc2,b0,l0,u0,L,rfl,Oe⟩
 have P2:Kp w.heap.size boxTs w1 w2:=Kp.upd kpT X2 oM
 have gs:=gs.kp P2
 clear P2
 have hz2:=X2.sz
 have E2:Upd w w2 [g]:=X2.up
 have KR2:=KR1.upv X2
 have KQ2:=KQ1.upv X2
 have KD2:Blk w2 w1.heap.size 65 #[.slice az0 nz0 kz0,.slice az1 nz1 kz1,.int .i64 s.State.Index,.int .i64 s.State.Time,.slice az4 nz4 kz4,.slice az5 nz5 kz5,.int .i64 s.State.Lease.Holder,.int .i64 s.State.Lease.Epoch,.int .i64 s.State.Lease.Until,.int .i64 s.Num,.int .i64 s.Last,.int .i64 s.Busy]:=bU X2
 clear X2
 clear CR1 FR1 LR1 CQ1 FQ1 LQ1
 obtain ⟨CR2,FR2,LR2⟩:=KR2.cfl
 obtain ⟨CQ2,FQ2,LQ2⟩:=KQ2.cfl
 obtain ⟨CD2,FD2,LD2⟩:=KD2.cfl
 obtain ⟨al,nl,kl,rfl⟩:=Oe.shape
 have Oe2:=OwnI.mono (B':=w.heap.size) Oe zT
 clear Oe
 go_wp2_with fail
 refine (l1Below_c (cU B) 6).mono ?_
 rintro e w3 ⟨_,rfl,X3,hc3,m,rfl,pm,qm,rm⟩
 have P3:Kp w.heap.size boxTs w2 w3:=Kp.upd kpT X3 oM
 have gs:=gs.kp P3
 clear P3
 have hz3:=X3.sz
 have E3:Upd w w3 [g]:=X3.up
 have KR3:=KR2.upv X3
 have KQ3:=KQ2.upv X3
 have KD3:=KD2.upv X3
 have KF3:Blk w3 w2.heap.size 68 #[.int .i64 b0,.int .i64 l0,.slice al nl kl]:=bU X3
 have Oe3:OwnI w.heap.size 105 9 w3 (.slice al nl kl) (flEntry L):=OwnI.drawn (ow_ex0x1x2y01n Oe2 KR2 KQ2 KD2) X3 oM
 clear X3
 clear CR2 FR2 LR2 CQ2 FQ2 LQ2 CD2 FD2 LD2
 obtain ⟨CR3,FR3,LR3⟩:=KR3.cfl
 obtain ⟨CQ3,FQ3,LQ3⟩:=KQ3.cfl
 obtain ⟨CD3,FD3,LD3⟩:=KD3.cfl
 obtain ⟨CF3,FF3,LF3⟩:=KF3.cfl
 have qm:=qm dC;clear rm
 obtain hway | hway | hway:(m = 0) ∨ (m = 1) ∨ m ≥ 2:=by omega
 ·
  obtain rfl:=hway
  go_wp2_with fail
  refine (l17Draw_c (cU B)).mono ?_
  rintro e w4 ⟨_,rfl,X4,hc4,s2,hs2⟩
  have P4:Kp w.heap.size boxTs w3 w4:=Kp.upd kpT X4 oM
  have gs:=gs.kp P4
  clear P4
  have hz4:=X4.sz
  have E4:Upd w w4 [g]:=X4.up
  have KR4:=KR3.upv X4
  have KQ4:=KQ3.upv X4
  have KD4:=KD3.upv X4
  have KF4:=KF3.upv X4
  have Oe4:=OwnI.drawn (ow_ex0x1x2x3y01n Oe3 KR3 KQ3 KF3 KD3) X4 oM
  clear X4
  clear CR3 FR3 LR3 CQ3 FQ3 LQ3 CD3 FD3 LD3 CF3 FF3 LF3
  obtain ⟨CR4,FR4,LR4⟩:=KR4.cfl
  obtain ⟨CQ4,FQ4,LQ4⟩:=KQ4.cfl
  obtain ⟨CD4,FD4,LD4⟩:=KD4.cfl
  obtain ⟨CF4,FF4,LF4⟩:=KF4.cfl
  replace hs2:=IsState.mono9 (B':=w.heap.size) hs2 zT
  have h29:=hs2
  obtain ⟨t2,t3,rfl,h4,h5⟩:=h29
  obtain ⟨a4,n4,k4,rfl⟩:=h4.shape
  obtain ⟨a5,n5,k5,rfl⟩:=h5.shape
  clear h4 h5
  go_wp2_with fail
  refine (l19DrawFeed_c (cU B) hgM (s:=s2) (show IsState _ _ _ _ from hs2) zT).mono ?_
  rintro e w5 ⟨_,rfl,X5,hc5,b1,l1,u1,L2,rfl,Oe⟩
  have P5:Kp w.heap.size boxTs w4 w5:=Kp.upd kpT X5 oM
  have gs:=gs.kp P5
  clear P5
  have hz5:=X5.sz
  have E5:Upd w w5 [g]:=X5.up
  have KR5:=KR4.upv X5
  have KQ5:=KQ4.upv X5
  have KD5:=KD4.upv X5
  have KF5:=KF4.upv X5
  have Oe5:=OwnI.drawn (ow_ex0x1x2x3y01n Oe4 KR4 KQ4 KF4 KD4) X5 oM
  clear X5
  clear CR4 FR4 LR4 CQ4 FQ4 LQ4 CD4 FD4 LD4 CF4 FF4 LF4
  obtain ⟨CR5,FR5,LR5⟩:=KR5.cfl
  obtain ⟨CQ5,FQ5,LQ5⟩:=KQ5.cfl
  obtain ⟨CD5,FD5,LD5⟩:=KD5.cfl
  obtain ⟨CF5,FF5,LF5⟩:=KF5.cfl
  obtain ⟨al2,nl2,kl2,rfl⟩:=Oe.shape
  have Oe25:=OwnI.mono (B':=w.heap.size) Oe zT
  clear Oe
  have EW5:Ext wo w5:=Ext.upd_below X0 E5 (fun k hk => by simp at hk;omega)
  go_wp2_with fail
  refine wp_region_held_drew (S:=(fun w' => Ext wo w' ∧ Blk w' w1.heap.size 65 #[.slice az0 nz0 kz0,.slice az1 nz1 kz1,.int .i64 s.State.Index,.int .i64 s.State.Time,.slice az4 nz4 kz4,.slice az5 nz5 kz5,.int .i64 s.State.Lease.Holder,.int .i64 s.State.Lease.Epoch,.int .i64 s.State.Lease.Until,.int .i64 s.Num,.int .i64 s.Last,.int .i64 s.Busy] ∧ Blk w' w2.heap.size 68 #[.int .i64 b1,.int .i64 l1,.slice al2 nl2 kl2])) (by kernel_rfl) (by (try dsimp only);exact ⟨by exact extT,bC,bC⟩) (fun hHeld => ?_)
  refine wtr 0 (fun _ h => h.2.1.cell) (fun _ h => h.2.1.lt) ?_
  (try simp only [redA,Act.put])
  refine wtr 1 (fun _ h => h.2.2.cell) (fun _ h => h.2.2.lt) ?_
  (try simp only [redA,Act.put])
  refine wr1 2 fun Kz hKz => ?_
  (try simp only [redA])
  go_simp
  refine hKz.out _ _ (by (try dsimp only);exact ⟨by exact extT,bC,bC⟩) (fun hHeld => ?_)
  clear hKz Kz
  (try simp only [redA,Act.put])
  refine wr1 3 fun Kz hKz => ?_
  (try simp only [redA])
  go_simp
  refine hKz.out _ _ (by (try dsimp only);exact ⟨by exact extT,bC,bC⟩) (fun hHeld => ?_)
  clear hKz Kz
  (try simp only [redA,Act.put])
  refine wpAnyH_done (by kernel_rfl) ?_ _
  go_wp2_with fail
  refine bodyPost_ret (by simp [results,Tryz.results22,go_sem,CR5,FR5,LR5,CQ5,FQ5,LQ5,CD5,FD5,LD5,CF5,FF5,LF5];try rfl) rfl ?_
  exact ⟨_,rfl,by exact extT,s,⟨b1,l1,L2⟩,_,_,rfl,AnyStore.rd (gs.kp kpT),⟨_,rfl,OwnI.ints (show OwnI w.heap.size 105 9 _ (.slice al2 nl2 kl2) (flEntry L2) from by exact ownR)⟩⟩
 ·
  obtain rfl:=hway
  obtain ⟨hnl,hkl,hkm⟩:=entries_cut Oe3
  unfold maxLen at hkm
  have Hnl:=Lib.hid hnl;clear hnl
  rcases Nat.eq_zero_or_pos nl with h00 | h00
  ·
   subst h00
   have hd0:decide (0 < ((0:Nat):Int)) = false:=by simp
   have EW3:Ext wo w3:=Ext.upd_below X0 E3 (fun k hk => by simp at hk;omega)
   go_wp2_with fail
   refine wp_region_held_drew (S:=(fun w' => Ext wo w' ∧ Blk w' w1.heap.size 65 #[.slice az0 nz0 kz0,.slice az1 nz1 kz1,.int .i64 s.State.Index,.int .i64 s.State.Time,.slice az4 nz4 kz4,.slice az5 nz5 kz5,.int .i64 s.State.Lease.Holder,.int .i64 s.State.Lease.Epoch,.int .i64 s.State.Lease.Until,.int .i64 s.Num,.int .i64 s.Last,.int .i64 s.Busy] ∧ Blk w' w2.heap.size 68 #[.int .i64 b0,.int .i64 l0,.slice al 0 kl])) (by kernel_rfl) (by (try dsimp only);exact ⟨by exact extT,bC,bC⟩) (fun hHeld => ?_)
   refine wtr 0 (fun _ h => h.2.1.cell) (fun _ h => h.2.1.lt) ?_
   (try simp only [redA,Act.put])
   refine wtr 1 (fun _ h => h.2.2.cell) (fun _ h => h.2.2.lt) ?_
   (try simp only [redA,Act.put])
   refine wr1 2 fun Kz hKz => ?_
   (try simp only [redA])
   go_simp
   refine hKz.out _ _ (by (try dsimp only);exact ⟨by exact extT,bC,bC⟩) (fun hHeld => ?_)
   clear hKz Kz
   (try simp only [redA,Act.put])
   refine wr1 3 fun Kz hKz => ?_
   (try simp only [redA])
   go_simp
   refine hKz.out _ _ (by (try dsimp only);exact ⟨by exact extT,bC,bC⟩) (fun hHeld => ?_)
   clear hKz Kz
   (try simp only [redA,Act.put])
   refine wpAnyH_done (by kernel_rfl) ?_ _
   go_wp2_with fail
   refine bodyPost_ret (by simp [results,Tryz.results22,go_sem,CR3,FR3,LR3,CQ3,FQ3,LQ3,CD3,FD3,LD3,CF3,FF3,LF3];try rfl) rfl ?_
   exact ⟨_,rfl,by exact extT,s,⟨b0,l0,L⟩,_,_,rfl,AnyStore.rd (gs.kp kpT),⟨_,rfl,OwnI.ints (show OwnI w.heap.size 105 9 _ (.slice al 0 kl) (flEntry L) from by exact ownR)⟩⟩
  have hd0:decide (0 < (nl:Int)) = true:=by simp;omega
  obtain ⟨ta,tn,tc,hs,hl0,hcc,hm0,hor⟩:=Own.open_ Oe3
  injection hs with hs1 hs2 hs3;subst hs1;subst hs2;subst hs3
  rcases hor with h01 | ⟨X,cur,rfl,hXB,hX,hXs,hXp⟩
  ·
   omega
  clear hXs hXp hX cur
  go_wp2_with fail
  refine (l1Below_c (cU B) (nl:Int)).mono ?_
  rintro e w4 ⟨_,rfl,X4,hc4,k0,rfl,pk,qk,rk⟩
  have P4:Kp w.heap.size boxTs w3 w4:=Kp.upd kpT X4 oM
  have gs:=gs.kp P4
  clear P4
  have hz4:=X4.sz
  have E4:Upd w w4 [g]:=X4.up
  have KR4:=KR3.upv X4
  have KQ4:=KQ3.upv X4
  have KD4:=KD3.upv X4
  have KF4:Blk w4 w2.heap.size 68 #[.int .i64 b0,.int .i64 l0,.slice (some ⟨X,0,none⟩) nl kl]:=bU X4
  have Oe4:OwnI w.heap.size 105 9 w4 (.slice (some ⟨X,0,none⟩) nl kl) (flEntry L):=OwnI.drawn (ow_ex0x1x2x3y01n Oe3 KR3 KQ3 KF3 KD3) X4 oM
  clear X4
  clear CR3 FR3 LR3 CQ3 FQ3 LQ3 CD3 FD3 LD3 CF3 FF3 LF3
  obtain ⟨CR4,FR4,LR4⟩:=KR4.cfl
  obtain ⟨CQ4,FQ4,LQ4⟩:=KQ4.cfl
  obtain ⟨CD4,FD4,LD4⟩:=KD4.cfl
  obtain ⟨CF4,FF4,LF4⟩:=KF4.cfl
  have qk:=qk oM;clear rk
  obtain ⟨K,rfl⟩:=Int.eq_ofNat_of_zero_le pk
  have hK:K < nl:=by omega
  have hKL:K < L.length:=by have:=Hnl.out;omega
  have hXg:X ≠ g:=by omega
  obtain ⟨cure4,KXe4⟩:=Own.typed' Oe4 (X:=X) rfl
  have FXe4:=KXe4.frozen;have LXe4:=KXe4.lt
  obtain ⟨_,_,hsle,_,_,hrec⟩:=Oe4.ints.recs (f:=DEntry.ints) (fun _ => rfl) dC
  obtain ⟨dde,bbe,ooe,hdde,hbae,_,hcce⟩:=hrec K oM
  injection hsle with hs1 hs2 hs3
  rw [← hs1] at hbae;injection hbae with hbae;injection hbae with hb1 hb2;subst hb1;subst hb2;clear hs1 hs2 hs3 hrec
  have hcee0:=hcce 0 _ dC rfl;(try simp only [Nat.zero_mul,Nat.zero_add,Nat.add_zero] at hcee0)
  have hcee1:=hcce 1 _ dC rfl;(try simp only [Nat.zero_mul,Nat.zero_add,Nat.add_zero] at hcee1)
  have hcee2:=hcce 2 _ dC rfl;(try simp only [Nat.zero_mul,Nat.zero_add,Nat.add_zero] at hcee2)
  have hcee3:=hcce 3 _ dC rfl;(try simp only [Nat.zero_mul,Nat.zero_add,Nat.add_zero] at hcee3)
  have hcee4:=hcce 4 _ dC rfl;(try simp only [Nat.zero_mul,Nat.zero_add,Nat.add_zero] at hcee4)
  have hcee5:=hcce 5 _ dC rfl;(try simp only [Nat.zero_mul,Nat.zero_add,Nat.add_zero] at hcee5)
  have hcee6:=hcce 6 _ dC rfl;(try simp only [Nat.zero_mul,Nat.zero_add,Nat.add_zero] at hcee6)
  have hcee7:=hcce 7 _ dC rfl;(try simp only [Nat.zero_mul,Nat.zero_add,Nat.add_zero] at hcee7)
  have hcee8:=hcce 8 _ dC rfl;(try simp only [Nat.zero_mul,Nat.zero_add,Nat.add_zero] at hcee8)
  clear hcce
  go_wp2_with fail
  refine wh (S:=fun w' => Upd w w' [g] ∧ Cur B w' g) fun hHeld => ?_
  refine wt 0 ?_
  (try simp only [redA,Act.put])
  refine wt 2 ?_
  (try simp only [redA,Act.put])
  refine wt 3 ?_
  (try simp only [redA,Act.put])
  refine wt 4 ?_
  (try simp only [redA,Act.put])
  refine wt 6 ?_
  (try simp only [redA,Act.put])
  refine wr2 1 5 (fun Kz hKz => ?_) fun Kz hKz => ?_
  ·
   (try simp only [redA])
   go_simp
   refine hKz.o2 fun hHeld => ?_
   clear hKz Kz
   (try simp only [redA,Act.put])
   refine wr1 5 fun Kz hKz => ?_
   (try simp only [redA])
   go_simp
   refine hKz.o2 fun hHeld => ?_
   clear hKz Kz
   (try simp only [redA,Act.put])
   refine wt 7 ?_
   (try simp only [redA,Act.put])
   refine wr1 8 fun Kz hKz => ?_
   (try simp only [redA])
   go_simp
   refine hKz.o2 fun hHeld => ?_
   clear hKz Kz
   (try simp only [redA,Act.put])
   refine wr1 9 fun Kz hKz => ?_
   (try simp only [redA])
   go_simp
   go_at_call 62
   refine (bentEntry_c (cU B) _ _ _ _ _ _ _ _ _).mono ?_
   rintro e w5 ⟨_,rfl,X5,hc5,fei,fet,fec,fes,fok,foa,fob,foc,fod,rfl⟩
   have P5:Kp w.heap.size boxTs w4 w5:=Kp.upd kpT X5 oM
   have gs:=gs.kp P5
   clear P5
   have hz5:=X5.sz
   have E5:Upd w w5 [g]:=X5.up
   have KR5:=KR4.upv X5
   have KQ5:=KQ4.upv X5
   have KD5:=KD4.upv X5
   have KF5:=KF4.upv X5
   have Oe5:=OwnI.drawn (ow_ex0x1x2x3y01n Oe4 KR4 KQ4 KF4 KD4) X5 oM
   clear X5
   clear CR4 FR4 LR4 CQ4 FQ4 LQ4 CD4 FD4 LD4 CF4 FF4 LF4 FXe4 LXe4 hcee0 hcee1 hcee2 hcee3 hcee4 hcee5 hcee6 hcee7 hcee8
   obtain ⟨CR5,FR5,LR5⟩:=KR5.cfl
   obtain ⟨CQ5,FQ5,LQ5⟩:=KQ5.cfl
   obtain ⟨CD5,FD5,LD5⟩:=KD5.cfl
   obtain ⟨CF5,FF5,LF5⟩:=KF5.cfl
   skip
   obtain ⟨cure5,KXe5⟩:=Own.typed' Oe5 (X:=X) rfl
   have FXe5:=KXe5.frozen;have LXe5:=KXe5.lt
   obtain ⟨_,_,hsle,_,_,hrec⟩:=Oe5.ints.recs (f:=DEntry.ints) (fun _ => rfl) dC
   obtain ⟨dde,bbe,ooe,hdde,hbae,_,hcce⟩:=hrec K oM
   injection hsle with hs1 hs2 hs3
   rw [← hs1] at hbae;injection hbae with hbae;injection hbae with hb1 hb2;subst hb1;subst hb2;clear hs1 hs2 hs3 hrec
   have hcee0:=hcce 0 _ dC rfl;(try simp only [Nat.zero_mul,Nat.zero_add,Nat.add_zero] at hcee0)
   have hcee1:=hcce 1 _ dC rfl;(try simp only [Nat.zero_mul,Nat.zero_add,Nat.add_zero] at hcee1)
   have hcee2:=hcce 2 _ dC rfl;(try simp only [Nat.zero_mul,Nat.zero_add,Nat.add_zero] at hcee2)
   have hcee3:=hcce 3 _ dC rfl;(try simp only [Nat.zero_mul,Nat.zero_add,Nat.add_zero] at hcee3)
   have hcee4:=hcce 4 _ dC rfl;(try simp only [Nat.zero_mul,Nat.zero_add,Nat.add_zero] at hcee4)
   have hcee5:=hcce 5 _ dC rfl;(try simp only [Nat.zero_mul,Nat.zero_add,Nat.add_zero] at hcee5)
   have hcee6:=hcce 6 _ dC rfl;(try simp only [Nat.zero_mul,Nat.zero_add,Nat.add_zero] at hcee6)
   have hcee7:=hcce 7 _ dC rfl;(try simp only [Nat.zero_mul,Nat.zero_add,Nat.add_zero] at hcee7)
   have hcee8:=hcce 8 _ dC rfl;(try simp only [Nat.zero_mul,Nat.zero_add,Nat.add_zero] at hcee8)
   clear hcce
   refine hKz.o2 fun hHeld => ?_
   clear hKz Kz
   (try simp only [redA,Act.put])
   refine wt 10 ?_
   (try simp only [redA,Act.put])
   refine wr1 11 fun Kz hKz => ?_
   (try simp only [redA])
   go_simp
   refine hKz.o2 fun hHeld => ?_
   clear hKz Kz
   (try simp only [redA,Act.put])
   refine wpAnyH_done (by kernel_rfl) ?_ _
   have hll:(flEntry L).length = L.length * 9:=length_flEntry L
   have On:=(OwnI.set (OwnI.set (OwnI.set (OwnI.set (OwnI.set (OwnI.set (OwnI.set (OwnI.set (OwnI.set Oe5 (i:=K * 9) (by (try simp only [List.length_set]);omega) fei) (i:=K * 9 + 1) (by (try simp only [List.length_set]);omega) fet) (i:=K * 9 + 2) (by (try simp only [List.length_set]);omega) fec) (i:=K * 9 + 3) (by (try simp only [List.length_set]);omega) fes) (i:=K * 9 + 4) (by (try simp only [List.length_set]);omega) fok) (i:=K * 9 + 5) (by (try simp only [List.length_set]);omega) foa) (i:=K * 9 + 6) (by (try simp only [List.length_set]);omega) fob) (i:=K * 9 + 7) (by (try simp only [List.length_set]);omega) foc) (i:=K * 9 + 8) (by (try simp only [List.length_set]);omega) fod)
   rw [flEntry_set9 hKL] at On
   have hXD:X ≠ w1.heap.size:=by intro e9;rw [e9] at KXe5;exact absurd (KXe5.same KD5) dC
   have hXF:X ≠ w2.heap.size:=by intro e9;rw [e9] at KXe5;exact absurd (KXe5.same KF5) dC
   obtain ⟨w6,hwn⟩:∃ wn,wn = (((((((((w5.setCell ⟨X,K * 9,none⟩ (.int .i64 fei)).setCell ⟨X,K * 9 + 1,none⟩ (.int .i64 fet)).setCell ⟨X,K * 9 + 2,none⟩ (.int .i64 fec)).setCell ⟨X,K * 9 + 3,none⟩ (.int .i64 fes)).setCell ⟨X,K * 9 + 4,none⟩ (.int .i64 fok)).setCell ⟨X,K * 9 + 5,none⟩ (.int .i64 foa)).setCell ⟨X,K * 9 + 6,none⟩ (.int .i64 fob)).setCell ⟨X,K * 9 + 7,none⟩ (.int .i64 foc)).setCell ⟨X,K * 9 + 8,none⟩ (.int .i64 fod)):=⟨_,rfl⟩
   have E6:Upd w w6 [g]:=by rw [hwn];exact updT
   have hc6:Cur B w6 g:=by rw [hwn];exact curT
   have gs9:=(show AnyStore w.heap.size w6 _ s from by rw [hwn];exact gs.kp kpT)
   have KR6:Blk w6 wo.heap.size 65 #[.slice none 0 0,.slice none 0 0,.int .i64 0,.int .i64 0,.slice none 0 0,.slice none 0 0,.int .i64 0,.int .i64 0,.int .i64 0,.int .i64 0,.int .i64 0,.int .i64 0]:=by rw [hwn];exact blkT
   have KQ6:Blk w6 (wo.heap.size + 1) 68 #[.int .i64 0,.int .i64 0,.slice none 0 0]:=by rw [hwn];exact blkT
   have KD6:Blk w6 w1.heap.size 65 #[.slice az0 nz0 kz0,.slice az1 nz1 kz1,.int .i64 s.State.Index,.int .i64 s.State.Time,.slice az4 nz4 kz4,.slice az5 nz5 kz5,.int .i64 s.State.Lease.Holder,.int .i64 s.State.Lease.Epoch,.int .i64 s.State.Lease.Until,.int .i64 s.Num,.int .i64 s.Last,.int .i64 s.Busy]:=by rw [hwn];exact blkT
   have KF6:Blk w6 w2.heap.size 68 #[.int .i64 b0,.int .i64 l0,.slice (some ⟨X,0,none⟩) nl kl]:=by rw [hwn];exact blkT
   have hz6:w6.heap.size = w5.heap.size:=by rw [hwn];simp only [World.size_setCell]
   rw [← hwn] at On ⊢;clear hwn gs;have gs:=gs9;clear gs9;have Oe6:=On;clear On
   clear CR5 FR5 LR5 CQ5 FQ5 LQ5 CD5 FD5 LD5 CF5 FF5 LF5 FXe5 LXe5 hcee0 hcee1 hcee2 hcee3 hcee4 hcee5 hcee6 hcee7 hcee8
   obtain ⟨CR6,FR6,LR6⟩:=KR6.cfl
   obtain ⟨CQ6,FQ6,LQ6⟩:=KQ6.cfl
   obtain ⟨CD6,FD6,LD6⟩:=KD6.cfl
   obtain ⟨CF6,FF6,LF6⟩:=KF6.cfl
   have EW6:Ext wo w6:=Ext.upd_below X0 E6 (fun k hk => by simp at hk;omega)
   go_wp2_with fail
   refine wp_region_held_drew (S:=(fun w' => Ext wo w' ∧ Blk w' w1.heap.size 65 #[.slice az0 nz0 kz0,.slice az1 nz1 kz1,.int .i64 s.State.Index,.int .i64 s.State.Time,.slice az4 nz4 kz4,.slice az5 nz5 kz5,.int .i64 s.State.Lease.Holder,.int .i64 s.State.Lease.Epoch,.int .i64 s.State.Lease.Until,.int .i64 s.Num,.int .i64 s.Last,.int .i64 s.Busy] ∧ Blk w' w2.heap.size 68 #[.int .i64 b0,.int .i64 l0,.slice (some ⟨X,0,none⟩) nl kl])) (by kernel_rfl) (by (try dsimp only);exact ⟨by exact extT,bC,bC⟩) (fun hHeld => ?_)
   refine wtr 0 (fun _ h => h.2.1.cell) (fun _ h => h.2.1.lt) ?_
   (try simp only [redA,Act.put])
   refine wtr 1 (fun _ h => h.2.2.cell) (fun _ h => h.2.2.lt) ?_
   (try simp only [redA,Act.put])
   refine wr1 2 fun Kz hKz => ?_
   (try simp only [redA])
   go_simp
   refine hKz.out _ _ (by (try dsimp only);exact ⟨by exact extT,bC,bC⟩) (fun hHeld => ?_)
   clear hKz Kz
   (try simp only [redA,Act.put])
   refine wr1 3 fun Kz hKz => ?_
   (try simp only [redA])
   go_simp
   refine hKz.out _ _ (by (try dsimp only);exact ⟨by exact extT,bC,bC⟩) (fun hHeld => ?_)
   clear hKz Kz
   (try simp only [redA,Act.put])
   refine wpAnyH_done (by kernel_rfl) ?_ _
   go_wp2_with fail
   refine bodyPost_ret (by simp [results,Tryz.results22,go_sem,CR6,FR6,LR6,CQ6,FQ6,LQ6,CD6,FD6,LD6,CF6,FF6,LF6];try rfl) rfl ?_
   exact ⟨_,rfl,by exact extT,s,⟨b0,l0,(L.set K ⟨fei,fet,fec,fes,⟨fok,foa,fob,foc,fod⟩⟩)⟩,_,_,rfl,AnyStore.rd (gs.kp kpT),⟨_,rfl,OwnI.ints (show OwnI w.heap.size 105 9 _ (.slice (some ⟨X,0,none⟩) nl kl) (flEntry (L.set K ⟨fei,fet,fec,fes,⟨fok,foa,fob,foc,fod⟩⟩)) from by exact ownR)⟩⟩
  (try simp only [redA])
  go_simp
  refine hKz.o2 fun hHeld => ?_
  clear hKz Kz
  (try simp only [redA,Act.put])
  refine wt 7 ?_
  (try simp only [redA,Act.put])
  refine wr2 1 8 (fun Kz hKz => ?_) fun Kz hKz => ?_
  ·
   (try simp only [redA])
   go_simp
   refine hKz.o2 fun hHeld => ?_
   clear hKz Kz
   (try simp only [redA,Act.put])
   refine wr1 8 fun Kz hKz => ?_
   (try simp only [redA])
   go_simp
   refine hKz.o2 fun hHeld => ?_
   clear hKz Kz
   (try simp only [redA,Act.put])
   refine wr1 9 fun Kz hKz => ?_
   (try simp only [redA])
   go_simp
   go_at_call 62
   refine (bentEntry_c (cU B) _ _ _ _ _ _ _ _ _).mono ?_
   rintro e w5 ⟨_,rfl,X5,hc5,fei,fet,fec,fes,fok,foa,fob,foc,fod,rfl⟩
   have P5:Kp w.heap.size boxTs w4 w5:=Kp.upd kpT X5 oM
   have gs:=gs.kp P5
   clear P5
   have hz5:=X5.sz
   have E5:Upd w w5 [g]:=X5.up
   have KR5:=KR4.upv X5
   have KQ5:=KQ4.upv X5
   have KD5:=KD4.upv X5
   have KF5:=KF4.upv X5
   have Oe5:=OwnI.drawn (ow_ex0x1x2x3y01n Oe4 KR4 KQ4 KF4 KD4) X5 oM
   clear X5
   clear CR4 FR4 LR4 CQ4 FQ4 LQ4 CD4 FD4 LD4 CF4 FF4 LF4 FXe4 LXe4 hcee0 hcee1 hcee2 hcee3 hcee4 hcee5 hcee6 hcee7 hcee8
   obtain ⟨CR5,FR5,LR5⟩:=KR5.cfl
   obtain ⟨CQ5,FQ5,LQ5⟩:=KQ5.cfl
   obtain ⟨CD5,FD5,LD5⟩:=KD5.cfl
   obtain ⟨CF5,FF5,LF5⟩:=KF5.cfl
   skip
   obtain ⟨cure5,KXe5⟩:=Own.typed' Oe5 (X:=X) rfl
   have FXe5:=KXe5.frozen;have LXe5:=KXe5.lt
   obtain ⟨_,_,hsle,_,_,hrec⟩:=Oe5.ints.recs (f:=DEntry.ints) (fun _ => rfl) dC
   obtain ⟨dde,bbe,ooe,hdde,hbae,_,hcce⟩:=hrec K oM
   injection hsle with hs1 hs2 hs3
   rw [← hs1] at hbae;injection hbae with hbae;injection hbae with hb1 hb2;subst hb1;subst hb2;clear hs1 hs2 hs3 hrec
   have hcee0:=hcce 0 _ dC rfl;(try simp only [Nat.zero_mul,Nat.zero_add,Nat.add_zero] at hcee0)
   have hcee1:=hcce 1 _ dC rfl;(try simp only [Nat.zero_mul,Nat.zero_add,Nat.add_zero] at hcee1)
   have hcee2:=hcce 2 _ dC rfl;(try simp only [Nat.zero_mul,Nat.zero_add,Nat.add_zero] at hcee2)
   have hcee3:=hcce 3 _ dC rfl;(try simp only [Nat.zero_mul,Nat.zero_add,Nat.add_zero] at hcee3)
   have hcee4:=hcce 4 _ dC rfl;(try simp only [Nat.zero_mul,Nat.zero_add,Nat.add_zero] at hcee4)
   have hcee5:=hcce 5 _ dC rfl;(try simp only [Nat.zero_mul,Nat.zero_add,Nat.add_zero] at hcee5)
   have hcee6:=hcce 6 _ dC rfl;(try simp only [Nat.zero_mul,Nat.zero_add,Nat.add_zero] at hcee6)
   have hcee7:=hcce 7 _ dC rfl;(try simp only [Nat.zero_mul,Nat.zero_add,Nat.add_zero] at hcee7)
   have hcee8:=hcce 8 _ dC rfl;(try simp only [Nat.zero_mul,Nat.zero_add,Nat.add_zero] at hcee8)
   clear hcce
   refine hKz.o2 fun hHeld => ?_
   clear hKz Kz
   (try simp only [redA,Act.put])
   refine wt 10 ?_
   (try simp only [redA,Act.put])
   refine wr1 11 fun Kz hKz => ?_
   (try simp only [redA])
   go_simp
   refine hKz.o2 fun hHeld => ?_
   clear hKz Kz
   (try simp only [redA,Act.put])
   refine wpAnyH_done (by kernel_rfl) ?_ _
   have hll:(flEntry L).length = L.length * 9:=length_flEntry L
   have On:=(OwnI.set (OwnI.set (OwnI.set (OwnI.set (OwnI.set (OwnI.set (OwnI.set (OwnI.set (OwnI.set Oe5 (i:=K * 9) (by (try simp only [List.length_set]);omega) fei) (i:=K * 9 + 1) (by (try simp only [List.length_set]);omega) fet) (i:=K * 9 + 2) (by (try simp only [List.length_set]);omega) fec) (i:=K * 9 + 3) (by (try simp only [List.length_set]);omega) fes) (i:=K * 9 + 4) (by (try simp only [List.length_set]);omega) fok) (i:=K * 9 + 5) (by (try simp only [List.length_set]);omega) foa) (i:=K * 9 + 6) (by (try simp only [List.length_set]);omega) fob) (i:=K * 9 + 7) (by (try simp only [List.length_set]);omega) foc) (i:=K * 9 + 8) (by (try simp only [List.length_set]);omega) fod)
   rw [flEntry_set9 hKL] at On
   have hXD:X ≠ w1.heap.size:=by intro e9;rw [e9] at KXe5;exact absurd (KXe5.same KD5) dC
   have hXF:X ≠ w2.heap.size:=by intro e9;rw [e9] at KXe5;exact absurd (KXe5.same KF5) dC
   obtain ⟨w6,hwn⟩:∃ wn,wn = (((((((((w5.setCell ⟨X,K * 9,none⟩ (.int .i64 fei)).setCell ⟨X,K * 9 + 1,none⟩ (.int .i64 fet)).setCell ⟨X,K * 9 + 2,none⟩ (.int .i64 fec)).setCell ⟨X,K * 9 + 3,none⟩ (.int .i64 fes)).setCell ⟨X,K * 9 + 4,none⟩ (.int .i64 fok)).setCell ⟨X,K * 9 + 5,none⟩ (.int .i64 foa)).setCell ⟨X,K * 9 + 6,none⟩ (.int .i64 fob)).setCell ⟨X,K * 9 + 7,none⟩ (.int .i64 foc)).setCell ⟨X,K * 9 + 8,none⟩ (.int .i64 fod)):=⟨_,rfl⟩
   have E6:Upd w w6 [g]:=by rw [hwn];exact updT
   have hc6:Cur B w6 g:=by rw [hwn];exact curT
   have gs9:=(show AnyStore w.heap.size w6 _ s from by rw [hwn];exact gs.kp kpT)
   have KR6:Blk w6 wo.heap.size 65 #[.slice none 0 0,.slice none 0 0,.int .i64 0,.int .i64 0,.slice none 0 0,.slice none 0 0,.int .i64 0,.int .i64 0,.int .i64 0,.int .i64 0,.int .i64 0,.int .i64 0]:=by rw [hwn];exact blkT
   have KQ6:Blk w6 (wo.heap.size + 1) 68 #[.int .i64 0,.int .i64 0,.slice none 0 0]:=by rw [hwn];exact blkT
   have KD6:Blk w6 w1.heap.size 65 #[.slice az0 nz0 kz0,.slice az1 nz1 kz1,.int .i64 s.State.Index,.int .i64 s.State.Time,.slice az4 nz4 kz4,.slice az5 nz5 kz5,.int .i64 s.State.Lease.Holder,.int .i64 s.State.Lease.Epoch,.int .i64 s.State.Lease.Until,.int .i64 s.Num,.int .i64 s.Last,.int .i64 s.Busy]:=by rw [hwn];exact blkT
   have KF6:Blk w6 w2.heap.size 68 #[.int .i64 b0,.int .i64 l0,.slice (some ⟨X,0,none⟩) nl kl]:=by rw [hwn];exact blkT
   have hz6:w6.heap.size = w5.heap.size:=by rw [hwn];simp only [World.size_setCell]
   rw [← hwn] at On ⊢;clear hwn gs;have gs:=gs9;clear gs9;have Oe6:=On;clear On
   clear CR5 FR5 LR5 CQ5 FQ5 LQ5 CD5 FD5 LD5 CF5 FF5 LF5 FXe5 LXe5 hcee0 hcee1 hcee2 hcee3 hcee4 hcee5 hcee6 hcee7 hcee8
   obtain ⟨CR6,FR6,LR6⟩:=KR6.cfl
   obtain ⟨CQ6,FQ6,LQ6⟩:=KQ6.cfl
   obtain ⟨CD6,FD6,LD6⟩:=KD6.cfl
   obtain ⟨CF6,FF6,LF6⟩:=KF6.cfl
   have EW6:Ext wo w6:=Ext.upd_below X0 E6 (fun k hk => by simp at hk;omega)
   go_wp2_with fail
   refine wp_region_held_drew (S:=(fun w' => Ext wo w' ∧ Blk w' w1.heap.size 65 #[.slice az0 nz0 kz0,.slice az1 nz1 kz1,.int .i64 s.State.Index,.int .i64 s.State.Time,.slice az4 nz4 kz4,.slice az5 nz5 kz5,.int .i64 s.State.Lease.Holder,.int .i64 s.State.Lease.Epoch,.int .i64 s.State.Lease.Until,.int .i64 s.Num,.int .i64 s.Last,.int .i64 s.Busy] ∧ Blk w' w2.heap.size 68 #[.int .i64 b0,.int .i64 l0,.slice (some ⟨X,0,none⟩) nl kl])) (by kernel_rfl) (by (try dsimp only);exact ⟨by exact extT,bC,bC⟩) (fun hHeld => ?_)
   refine wtr 0 (fun _ h => h.2.1.cell) (fun _ h => h.2.1.lt) ?_
   (try simp only [redA,Act.put])
   refine wtr 1 (fun _ h => h.2.2.cell) (fun _ h => h.2.2.lt) ?_
   (try simp only [redA,Act.put])
   refine wr1 2 fun Kz hKz => ?_
   (try simp only [redA])
   go_simp
   refine hKz.out _ _ (by (try dsimp only);exact ⟨by exact extT,bC,bC⟩) (fun hHeld => ?_)
   clear hKz Kz
   (try simp only [redA,Act.put])
   refine wr1 3 fun Kz hKz => ?_
   (try simp only [redA])
   go_simp
   refine hKz.out _ _ (by (try dsimp only);exact ⟨by exact extT,bC,bC⟩) (fun hHeld => ?_)
   clear hKz Kz
   (try simp only [redA,Act.put])
   refine wpAnyH_done (by kernel_rfl) ?_ _
   go_wp2_with fail
   refine bodyPost_ret (by simp [results,Tryz.results22,go_sem,CR6,FR6,LR6,CQ6,FQ6,LQ6,CD6,FD6,LD6,CF6,FF6,LF6];try rfl) rfl ?_
   exact ⟨_,rfl,by exact extT,s,⟨b0,l0,(L.set K ⟨fei,fet,fec,fes,⟨fok,foa,fob,foc,fod⟩⟩)⟩,_,_,rfl,AnyStore.rd (gs.kp kpT),⟨_,rfl,OwnI.ints (show OwnI w.heap.size 105 9 _ (.slice (some ⟨X,0,none⟩) nl kl) (flEntry (L.set K ⟨fei,fet,fec,fes,⟨fok,foa,fob,foc,fod⟩⟩)) from by exact ownR)⟩⟩
  (try simp only [redA])
  go_simp
  refine hKz.o2 fun hHeld => ?_
  clear hKz Kz
  (try simp only [redA,Act.put])
  refine wr2 1 9 (fun Kz hKz => ?_) fun Kz hKz => ?_
  ·
   (try simp only [redA])
   go_simp
   refine hKz.o2 fun hHeld => ?_
   clear hKz Kz
   (try simp only [redA,Act.put])
   refine wr1 9 fun Kz hKz => ?_
   (try simp only [redA])
   go_simp
   go_at_call 62
   refine (bentEntry_c (cU B) _ _ _ _ _ _ _ _ _).mono ?_
   rintro e w5 ⟨_,rfl,X5,hc5,fei,fet,fec,fes,fok,foa,fob,foc,fod,rfl⟩
   have P5:Kp w.heap.size boxTs w4 w5:=Kp.upd kpT X5 oM
   have gs:=gs.kp P5
   clear P5
   have hz5:=X5.sz
   have E5:Upd w w5 [g]:=X5.up
   have KR5:=KR4.upv X5
   have KQ5:=KQ4.upv X5
   have KD5:=KD4.upv X5
   have KF5:=KF4.upv X5
   have Oe5:=OwnI.drawn (ow_ex0x1x2x3y01n Oe4 KR4 KQ4 KF4 KD4) X5 oM
   clear X5
   clear CR4 FR4 LR4 CQ4 FQ4 LQ4 CD4 FD4 LD4 CF4 FF4 LF4 FXe4 LXe4 hcee0 hcee1 hcee2 hcee3 hcee4 hcee5 hcee6 hcee7 hcee8
   obtain ⟨CR5,FR5,LR5⟩:=KR5.cfl
   obtain ⟨CQ5,FQ5,LQ5⟩:=KQ5.cfl
   obtain ⟨CD5,FD5,LD5⟩:=KD5.cfl
   obtain ⟨CF5,FF5,LF5⟩:=KF5.cfl
   skip
   obtain ⟨cure5,KXe5⟩:=Own.typed' Oe5 (X:=X) rfl
   have FXe5:=KXe5.frozen;have LXe5:=KXe5.lt
   obtain ⟨_,_,hsle,_,_,hrec⟩:=Oe5.ints.recs (f:=DEntry.ints) (fun _ => rfl) dC
   obtain ⟨dde,bbe,ooe,hdde,hbae,_,hcce⟩:=hrec K oM
   injection hsle with hs1 hs2 hs3
   rw [← hs1] at hbae;injection hbae with hbae;injection hbae with hb1 hb2;subst hb1;subst hb2;clear hs1 hs2 hs3 hrec
   have hcee0:=hcce 0 _ dC rfl;(try simp only [Nat.zero_mul,Nat.zero_add,Nat.add_zero] at hcee0)
   have hcee1:=hcce 1 _ dC rfl;(try simp only [Nat.zero_mul,Nat.zero_add,Nat.add_zero] at hcee1)
   have hcee2:=hcce 2 _ dC rfl;(try simp only [Nat.zero_mul,Nat.zero_add,Nat.add_zero] at hcee2)
   have hcee3:=hcce 3 _ dC rfl;(try simp only [Nat.zero_mul,Nat.zero_add,Nat.add_zero] at hcee3)
   have hcee4:=hcce 4 _ dC rfl;(try simp only [Nat.zero_mul,Nat.zero_add,Nat.add_zero] at hcee4)
   have hcee5:=hcce 5 _ dC rfl;(try simp only [Nat.zero_mul,Nat.zero_add,Nat.add_zero] at hcee5)
   have hcee6:=hcce 6 _ dC rfl;(try simp only [Nat.zero_mul,Nat.zero_add,Nat.add_zero] at hcee6)
   have hcee7:=hcce 7 _ dC rfl;(try simp only [Nat.zero_mul,Nat.zero_add,Nat.add_zero] at hcee7)
   have hcee8:=hcce 8 _ dC rfl;(try simp only [Nat.zero_mul,Nat.zero_add,Nat.add_zero] at hcee8)
   clear hcce
   refine hKz.o2 fun hHeld => ?_
   clear hKz Kz
   (try simp only [redA,Act.put])
   refine wt 10 ?_
   (try simp only [redA,Act.put])
   refine wr1 11 fun Kz hKz => ?_
   (try simp only [redA])
   go_simp
   refine hKz.o2 fun hHeld => ?_
   clear hKz Kz
   (try simp only [redA,Act.put])
   refine wpAnyH_done (by kernel_rfl) ?_ _
   have hll:(flEntry L).length = L.length * 9:=length_flEntry L
   have On:=(OwnI.set (OwnI.set (OwnI.set (OwnI.set (OwnI.set (OwnI.set (OwnI.set (OwnI.set (OwnI.set Oe5 (i:=K * 9) (by (try simp only [List.length_set]);omega) fei) (i:=K * 9 + 1) (by (try simp only [List.length_set]);omega) fet) (i:=K * 9 + 2) (by (try simp only [List.length_set]);omega) fec) (i:=K * 9 + 3) (by (try simp only [List.length_set]);omega) fes) (i:=K * 9 + 4) (by (try simp only [List.length_set]);omega) fok) (i:=K * 9 + 5) (by (try simp only [List.length_set]);omega) foa) (i:=K * 9 + 6) (by (try simp only [List.length_set]);omega) fob) (i:=K * 9 + 7) (by (try simp only [List.length_set]);omega) foc) (i:=K * 9 + 8) (by (try simp only [List.length_set]);omega) fod)
   rw [flEntry_set9 hKL] at On
   have hXD:X ≠ w1.heap.size:=by intro e9;rw [e9] at KXe5;exact absurd (KXe5.same KD5) dC
   have hXF:X ≠ w2.heap.size:=by intro e9;rw [e9] at KXe5;exact absurd (KXe5.same KF5) dC
   obtain ⟨w6,hwn⟩:∃ wn,wn = (((((((((w5.setCell ⟨X,K * 9,none⟩ (.int .i64 fei)).setCell ⟨X,K * 9 + 1,none⟩ (.int .i64 fet)).setCell ⟨X,K * 9 + 2,none⟩ (.int .i64 fec)).setCell ⟨X,K * 9 + 3,none⟩ (.int .i64 fes)).setCell ⟨X,K * 9 + 4,none⟩ (.int .i64 fok)).setCell ⟨X,K * 9 + 5,none⟩ (.int .i64 foa)).setCell ⟨X,K * 9 + 6,none⟩ (.int .i64 fob)).setCell ⟨X,K * 9 + 7,none⟩ (.int .i64 foc)).setCell ⟨X,K * 9 + 8,none⟩ (.int .i64 fod)):=⟨_,rfl⟩
   have E6:Upd w w6 [g]:=by rw [hwn];exact updT
   have hc6:Cur B w6 g:=by rw [hwn];exact curT
   have gs9:=(show AnyStore w.heap.size w6 _ s from by rw [hwn];exact gs.kp kpT)
   have KR6:Blk w6 wo.heap.size 65 #[.slice none 0 0,.slice none 0 0,.int .i64 0,.int .i64 0,.slice none 0 0,.slice none 0 0,.int .i64 0,.int .i64 0,.int .i64 0,.int .i64 0,.int .i64 0,.int .i64 0]:=by rw [hwn];exact blkT
   have KQ6:Blk w6 (wo.heap.size + 1) 68 #[.int .i64 0,.int .i64 0,.slice none 0 0]:=by rw [hwn];exact blkT
   have KD6:Blk w6 w1.heap.size 65 #[.slice az0 nz0 kz0,.slice az1 nz1 kz1,.int .i64 s.State.Index,.int .i64 s.State.Time,.slice az4 nz4 kz4,.slice az5 nz5 kz5,.int .i64 s.State.Lease.Holder,.int .i64 s.State.Lease.Epoch,.int .i64 s.State.Lease.Until,.int .i64 s.Num,.int .i64 s.Last,.int .i64 s.Busy]:=by rw [hwn];exact blkT
   have KF6:Blk w6 w2.heap.size 68 #[.int .i64 b0,.int .i64 l0,.slice (some ⟨X,0,none⟩) nl kl]:=by rw [hwn];exact blkT
   have hz6:w6.heap.size = w5.heap.size:=by rw [hwn];simp only [World.size_setCell]
   rw [← hwn] at On ⊢;clear hwn gs;have gs:=gs9;clear gs9;have Oe6:=On;clear On
   clear CR5 FR5 LR5 CQ5 FQ5 LQ5 CD5 FD5 LD5 CF5 FF5 LF5 FXe5 LXe5 hcee0 hcee1 hcee2 hcee3 hcee4 hcee5 hcee6 hcee7 hcee8
   obtain ⟨CR6,FR6,LR6⟩:=KR6.cfl
   obtain ⟨CQ6,FQ6,LQ6⟩:=KQ6.cfl
   obtain ⟨CD6,FD6,LD6⟩:=KD6.cfl
   obtain ⟨CF6,FF6,LF6⟩:=KF6.cfl
   have EW6:Ext wo w6:=Ext.upd_below X0 E6 (fun k hk => by simp at hk;omega)
   go_wp2_with fail
   refine wp_region_held_drew (S:=(fun w' => Ext wo w' ∧ Blk w' w1.heap.size 65 #[.slice az0 nz0 kz0,.slice az1 nz1 kz1,.int .i64 s.State.Index,.int .i64 s.State.Time,.slice az4 nz4 kz4,.slice az5 nz5 kz5,.int .i64 s.State.Lease.Holder,.int .i64 s.State.Lease.Epoch,.int .i64 s.State.Lease.Until,.int .i64 s.Num,.int .i64 s.Last,.int .i64 s.Busy] ∧ Blk w' w2.heap.size 68 #[.int .i64 b0,.int .i64 l0,.slice (some ⟨X,0,none⟩) nl kl])) (by kernel_rfl) (by (try dsimp only);exact ⟨by exact extT,bC,bC⟩) (fun hHeld => ?_)
   refine wtr 0 (fun _ h => h.2.1.cell) (fun _ h => h.2.1.lt) ?_
   (try simp only [redA,Act.put])
   refine wtr 1 (fun _ h => h.2.2.cell) (fun _ h => h.2.2.lt) ?_
   (try simp only [redA,Act.put])
   refine wr1 2 fun Kz hKz => ?_
   (try simp only [redA])
   go_simp
   refine hKz.out _ _ (by (try dsimp only);exact ⟨by exact extT,bC,bC⟩) (fun hHeld => ?_)
   clear hKz Kz
   (try simp only [redA,Act.put])
   refine wr1 3 fun Kz hKz => ?_
   (try simp only [redA])
   go_simp
   refine hKz.out _ _ (by (try dsimp only);exact ⟨by exact extT,bC,bC⟩) (fun hHeld => ?_)
   clear hKz Kz
   (try simp only [redA,Act.put])
   refine wpAnyH_done (by kernel_rfl) ?_ _
   go_wp2_with fail
   refine bodyPost_ret (by simp [results,Tryz.results22,go_sem,CR6,FR6,LR6,CQ6,FQ6,LQ6,CD6,FD6,LD6,CF6,FF6,LF6];try rfl) rfl ?_
   exact ⟨_,rfl,by exact extT,s,⟨b0,l0,(L.set K ⟨fei,fet,fec,fes,⟨fok,foa,fob,foc,fod⟩⟩)⟩,_,_,rfl,AnyStore.rd (gs.kp kpT),⟨_,rfl,OwnI.ints (show OwnI w.heap.size 105 9 _ (.slice (some ⟨X,0,none⟩) nl kl) (flEntry (L.set K ⟨fei,fet,fec,fes,⟨fok,foa,fob,foc,fod⟩⟩)) from by exact ownR)⟩⟩
  (try simp only [redA])
  go_simp
  go_at_call 62
  refine (bentEntry_c (cU B) _ _ _ _ _ _ _ _ _).mono ?_
  rintro e w5 ⟨_,rfl,X5,hc5,fei,fet,fec,fes,fok,foa,fob,foc,fod,rfl⟩
  have P5:Kp w.heap.size boxTs w4 w5:=Kp.upd kpT X5 oM
  have gs:=gs.kp P5
  clear P5
  have hz5:=X5.sz
  have E5:Upd w w5 [g]:=X5.up
  have KR5:=KR4.upv X5
  have KQ5:=KQ4.upv X5
  have KD5:=KD4.upv X5
  have KF5:=KF4.upv X5
  have Oe5:=OwnI.drawn (ow_ex0x1x2x3y01n Oe4 KR4 KQ4 KF4 KD4) X5 oM
  clear X5
  clear CR4 FR4 LR4 CQ4 FQ4 LQ4 CD4 FD4 LD4 CF4 FF4 LF4 FXe4 LXe4 hcee0 hcee1 hcee2 hcee3 hcee4 hcee5 hcee6 hcee7 hcee8
  obtain ⟨CR5,FR5,LR5⟩:=KR5.cfl
  obtain ⟨CQ5,FQ5,LQ5⟩:=KQ5.cfl
  obtain ⟨CD5,FD5,LD5⟩:=KD5.cfl
  obtain ⟨CF5,FF5,LF5⟩:=KF5.cfl
  skip
  obtain ⟨cure5,KXe5⟩:=Own.typed' Oe5 (X:=X) rfl
  have FXe5:=KXe5.frozen;have LXe5:=KXe5.lt
  obtain ⟨_,_,hsle,_,_,hrec⟩:=Oe5.ints.recs (f:=DEntry.ints) (fun _ => rfl) dC
  obtain ⟨dde,bbe,ooe,hdde,hbae,_,hcce⟩:=hrec K oM
  injection hsle with hs1 hs2 hs3
  rw [← hs1] at hbae;injection hbae with hbae;injection hbae with hb1 hb2;subst hb1;subst hb2;clear hs1 hs2 hs3 hrec
  have hcee0:=hcce 0 _ dC rfl;(try simp only [Nat.zero_mul,Nat.zero_add,Nat.add_zero] at hcee0)
  have hcee1:=hcce 1 _ dC rfl;(try simp only [Nat.zero_mul,Nat.zero_add,Nat.add_zero] at hcee1)
  have hcee2:=hcce 2 _ dC rfl;(try simp only [Nat.zero_mul,Nat.zero_add,Nat.add_zero] at hcee2)
  have hcee3:=hcce 3 _ dC rfl;(try simp only [Nat.zero_mul,Nat.zero_add,Nat.add_zero] at hcee3)
  have hcee4:=hcce 4 _ dC rfl;(try simp only [Nat.zero_mul,Nat.zero_add,Nat.add_zero] at hcee4)
  have hcee5:=hcce 5 _ dC rfl;(try simp only [Nat.zero_mul,Nat.zero_add,Nat.add_zero] at hcee5)
  have hcee6:=hcce 6 _ dC rfl;(try simp only [Nat.zero_mul,Nat.zero_add,Nat.add_zero] at hcee6)
  have hcee7:=hcce 7 _ dC rfl;(try simp only [Nat.zero_mul,Nat.zero_add,Nat.add_zero] at hcee7)
  have hcee8:=hcce 8 _ dC rfl;(try simp only [Nat.zero_mul,Nat.zero_add,Nat.add_zero] at hcee8)
  clear hcce
  refine hKz.o2 fun hHeld => ?_
  clear hKz Kz
  (try simp only [redA,Act.put])
  refine wr1 1 fun Kz hKz => ?_
  (try simp only [redA])
  go_simp
  refine hKz.o2 fun hHeld => ?_
  clear hKz Kz
  (try simp only [redA,Act.put])
  refine wt 10 ?_
  (try simp only [redA,Act.put])
  refine wr1 11 fun Kz hKz => ?_
  (try simp only [redA])
  go_simp
  refine hKz.o2 fun hHeld => ?_
  clear hKz Kz
  (try simp only [redA,Act.put])
  refine wpAnyH_done (by kernel_rfl) ?_ _
  have hll:(flEntry L).length = L.length * 9:=length_flEntry L
  have On:=(OwnI.set (OwnI.set (OwnI.set (OwnI.set (OwnI.set (OwnI.set (OwnI.set (OwnI.set (OwnI.set Oe5 (i:=K * 9) (by (try simp only [List.length_set]);omega) fei) (i:=K * 9 + 1) (by (try simp only [List.length_set]);omega) fet) (i:=K * 9 + 2) (by (try simp only [List.length_set]);omega) fec) (i:=K * 9 + 3) (by (try simp only [List.length_set]);omega) fes) (i:=K * 9 + 4) (by (try simp only [List.length_set]);omega) fok) (i:=K * 9 + 5) (by (try simp only [List.length_set]);omega) foa) (i:=K * 9 + 6) (by (try simp only [List.length_set]);omega) fob) (i:=K * 9 + 7) (by (try simp only [List.length_set]);omega) foc) (i:=K * 9 + 8) (by (try simp only [List.length_set]);omega) fod)
  rw [flEntry_set9 hKL] at On
  have hXD:X ≠ w1.heap.size:=by intro e9;rw [e9] at KXe5;exact absurd (KXe5.same KD5) dC
  have hXF:X ≠ w2.heap.size:=by intro e9;rw [e9] at KXe5;exact absurd (KXe5.same KF5) dC
  obtain ⟨w6,hwn⟩:∃ wn,wn = (((((((((w5.setCell ⟨X,K * 9,none⟩ (.int .i64 fei)).setCell ⟨X,K * 9 + 1,none⟩ (.int .i64 fet)).setCell ⟨X,K * 9 + 2,none⟩ (.int .i64 fec)).setCell ⟨X,K * 9 + 3,none⟩ (.int .i64 fes)).setCell ⟨X,K * 9 + 4,none⟩ (.int .i64 fok)).setCell ⟨X,K * 9 + 5,none⟩ (.int .i64 foa)).setCell ⟨X,K * 9 + 6,none⟩ (.int .i64 fob)).setCell ⟨X,K * 9 + 7,none⟩ (.int .i64 foc)).setCell ⟨X,K * 9 + 8,none⟩ (.int .i64 fod)):=⟨_,rfl⟩
  have E6:Upd w w6 [g]:=by rw [hwn];exact updT
  have hc6:Cur B w6 g:=by rw [hwn];exact curT
  have gs9:=(show AnyStore w.heap.size w6 _ s from by rw [hwn];exact gs.kp kpT)
  have KR6:Blk w6 wo.heap.size 65 #[.slice none 0 0,.slice none 0 0,.int .i64 0,.int .i64 0,.slice none 0 0,.slice none 0 0,.int .i64 0,.int .i64 0,.int .i64 0,.int .i64 0,.int .i64 0,.int .i64 0]:=by rw [hwn];exact blkT
  have KQ6:Blk w6 (wo.heap.size + 1) 68 #[.int .i64 0,.int .i64 0,.slice none 0 0]:=by rw [hwn];exact blkT
  have KD6:Blk w6 w1.heap.size 65 #[.slice az0 nz0 kz0,.slice az1 nz1 kz1,.int .i64 s.State.Index,.int .i64 s.State.Time,.slice az4 nz4 kz4,.slice az5 nz5 kz5,.int .i64 s.State.Lease.Holder,.int .i64 s.State.Lease.Epoch,.int .i64 s.State.Lease.Until,.int .i64 s.Num,.int .i64 s.Last,.int .i64 s.Busy]:=by rw [hwn];exact blkT
  have KF6:Blk w6 w2.heap.size 68 #[.int .i64 b0,.int .i64 l0,.slice (some ⟨X,0,none⟩) nl kl]:=by rw [hwn];exact blkT
  have hz6:w6.heap.size = w5.heap.size:=by rw [hwn];simp only [World.size_setCell]
  rw [← hwn] at On ⊢;clear hwn gs;have gs:=gs9;clear gs9;have Oe6:=On;clear On
  clear CR5 FR5 LR5 CQ5 FQ5 LQ5 CD5 FD5 LD5 CF5 FF5 LF5 FXe5 LXe5 hcee0 hcee1 hcee2 hcee3 hcee4 hcee5 hcee6 hcee7 hcee8
  obtain ⟨CR6,FR6,LR6⟩:=KR6.cfl
  obtain ⟨CQ6,FQ6,LQ6⟩:=KQ6.cfl
  obtain ⟨CD6,FD6,LD6⟩:=KD6.cfl
  obtain ⟨CF6,FF6,LF6⟩:=KF6.cfl
  have EW6:Ext wo w6:=Ext.upd_below X0 E6 (fun k hk => by simp at hk;omega)
  go_wp2_with fail
  refine wp_region_held_drew (S:=(fun w' => Ext wo w' ∧ Blk w' w1.heap.size 65 #[.slice az0 nz0 kz0,.slice az1 nz1 kz1,.int .i64 s.State.Index,.int .i64 s.State.Time,.slice az4 nz4 kz4,.slice az5 nz5 kz5,.int .i64 s.State.Lease.Holder,.int .i64 s.State.Lease.Epoch,.int .i64 s.State.Lease.Until,.int .i64 s.Num,.int .i64 s.Last,.int .i64 s.Busy] ∧ Blk w' w2.heap.size 68 #[.int .i64 b0,.int .i64 l0,.slice (some ⟨X,0,none⟩) nl kl])) (by kernel_rfl) (by (try dsimp only);exact ⟨by exact extT,bC,bC⟩) (fun hHeld => ?_)
  refine wtr 0 (fun _ h => h.2.1.cell) (fun _ h => h.2.1.lt) ?_
  (try simp only [redA,Act.put])
  refine wtr 1 (fun _ h => h.2.2.cell) (fun _ h => h.2.2.lt) ?_
  (try simp only [redA,Act.put])
  refine wr1 2 fun Kz hKz => ?_
  (try simp only [redA])
  go_simp
  refine hKz.out _ _ (by (try dsimp only);exact ⟨by exact extT,bC,bC⟩) (fun hHeld => ?_)
  clear hKz Kz
  (try simp only [redA,Act.put])
  refine wr1 3 fun Kz hKz => ?_
  (try simp only [redA])
  go_simp
  refine hKz.out _ _ (by (try dsimp only);exact ⟨by exact extT,bC,bC⟩) (fun hHeld => ?_)
  clear hKz Kz
  (try simp only [redA,Act.put])
  refine wpAnyH_done (by kernel_rfl) ?_ _
  go_wp2_with fail
  refine bodyPost_ret (by simp [results,Tryz.results22,go_sem,CR6,FR6,LR6,CQ6,FQ6,LQ6,CD6,FD6,LD6,CF6,FF6,LF6];try rfl) rfl ?_
  exact ⟨_,rfl,by exact extT,s,⟨b0,l0,(L.set K ⟨fei,fet,fec,fes,⟨fok,foa,fob,foc,fod⟩⟩)⟩,_,_,rfl,AnyStore.rd (gs.kp kpT),⟨_,rfl,OwnI.ints (show OwnI w.heap.size 105 9 _ (.slice (some ⟨X,0,none⟩) nl kl) (flEntry (L.set K ⟨fei,fet,fec,fes,⟨fok,foa,fob,foc,fod⟩⟩)) from by exact ownR)⟩⟩
 have hb0:(m == 0) = false:=by simp;omega
 have hb1:(m == 1) = false:=by simp;omega
 have EW3:Ext wo w3:=Ext.upd_below X0 E3 (fun k hk => by simp at hk;omega)
 go_wp2_with fail
 refine wp_region_held_drew (S:=(fun w' => Ext wo w' ∧ Blk w' w1.heap.size 65 #[.slice az0 nz0 kz0,.slice az1 nz1 kz1,.int .i64 s.State.Index,.int .i64 s.State.Time,.slice az4 nz4 kz4,.slice az5 nz5 kz5,.int .i64 s.State.Lease.Holder,.int .i64 s.State.Lease.Epoch,.int .i64 s.State.Lease.Until,.int .i64 s.Num,.int .i64 s.Last,.int .i64 s.Busy] ∧ Blk w' w2.heap.size 68 #[.int .i64 b0,.int .i64 l0,.slice al nl kl])) (by kernel_rfl) (by (try dsimp only);exact ⟨by exact extT,bC,bC⟩) (fun hHeld => ?_)
 refine wtr 0 (fun _ h => h.2.1.cell) (fun _ h => h.2.1.lt) ?_
 (try simp only [redA,Act.put])
 refine wtr 1 (fun _ h => h.2.2.cell) (fun _ h => h.2.2.lt) ?_
 (try simp only [redA,Act.put])
 refine wr1 2 fun Kz hKz => ?_
 (try simp only [redA])
 go_simp
 refine hKz.out _ _ (by (try dsimp only);exact ⟨by exact extT,bC,bC⟩) (fun hHeld => ?_)
 clear hKz Kz
 (try simp only [redA,Act.put])
 refine wr1 3 fun Kz hKz => ?_
 (try simp only [redA])
 go_simp
 refine hKz.out _ _ (by (try dsimp only);exact ⟨by exact extT,bC,bC⟩) (fun hHeld => ?_)
 clear hKz Kz
 (try simp only [redA,Act.put])
 refine wpAnyH_done (by kernel_rfl) ?_ _
 go_wp2_with fail
 refine bodyPost_ret (by simp [results,Tryz.results22,go_sem,CR3,FR3,LR3,CQ3,FQ3,LQ3,CD3,FD3,LD3,CF3,FF3,LF3];try rfl) rfl ?_
 exact ⟨_,rfl,by exact extT,s,⟨b0,l0,L⟩,_,_,rfl,AnyStore.rd (gs.kp kpT),⟨_,rfl,OwnI.ints (show OwnI w.heap.size 105 9 _ (.slice al nl kl) (flEntry L) from by exact ownR)⟩⟩
end Go.Proofs.YtcnioiieiebodaaGreat
