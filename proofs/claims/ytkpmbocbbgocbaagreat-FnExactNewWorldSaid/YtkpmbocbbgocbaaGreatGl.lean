/- HelpH Q9 S5 KS P7 Q10. -/
import Derived.Test.YtkpmbocbbgocbaaGreatGa
import Derived.Test.YtkpmbocbbgocbaaGreatGb
import Derived.Test.YtkpmbocbbgocbaaGreatGi
import Derived.Test.YtkpmbocbbgocbaaGreatGu
import Derived.Test.YtkpmbocbbgocbaaGreatGe
import Derived.Test.YtkpmbocbbgocbaaGreatGv
import Derived.Test.YtkpmbocbbgocbaaGreatGw
set_option linter.unusedSimpArgs false
set_option linter.unusedVariables false
set_option maxHeartbeats 8000000
set_option maxRecDepth 100000
namespace Go.Proofs.YtkpmbocbbgocbaaGreat
open Go.RowKit Go.G8
theorem markStore_c (w:World) (B:Nat) (s0:Value) (d0:List NRow) (ss0:List Value) (s1:Value) (d1:List NRow) (ss1:List Value) (c2 c3:Int) (s4:Value) (d4:List Int) (L4:Nat) (hL4:d4.length=L4 * 2) (s5:Value) (d5:List Int) (L5:Nat) (hL5:d5.length=L5 * 5) (c6 c7 c8 c9 c10 c11:Int) (q:Int)
  (h0:OwnNs B 62 2 0 w s0 d0 ss0) (h1:OwnNs B 312 2 1 w s1 d1 ss1) (h4:OwnI B 362 2 w s4 d4) (h5:OwnI B 366 5 w s5 d5)
  (hd:∀ k,k ∈ feet (s0 :: ss0)→k ∈ feet (s1 :: ss1)→False) (hd4:∀ k,k ∈ feet (s0 :: ss0) ++ feet (s1 :: ss1)→k ∈ feet [s4] ++ feet [s5]→False) (hd5:∀ k,k ∈ feet [s4]→k ∈ feet [s5]→False)
  (hq0:0≤q) (hq1:q+(tot 0 d0:Nat)+(tot 1 d1:Nat)+(L4 * 2:Nat)+(L5 * 5:Nat)≤4611686018427387904) :
  Calls Tryz.prog 60 #[.agg #[s0,s1,.int .i64 c2,.int .i64 c3,s4,s5,.int .i64 c6,.int .i64 c7,.int .i64 c8,.int .i64 c9,.int .i64 c10,.int .i64 c11],.int .i64 q] w (RetM w ((feet (s0 :: ss0) ++ feet (s1 :: ss1)) ++ (feet [s4] ++ feet [s5])) (.int .i64 (q+(tot 0 d0:Nat)+(tot 1 d1:Nat)+(L4 * 2:Nat)+(L5 * 5:Nat))) fun w' =>
   OwnNs B 62 2 0 w' s0 (marks 0 q d0) ss0∧OwnNs B 312 2 1 w' s1 (marks 1 (q+(tot 0 d0:Nat)) d1) ss1∧OwnI B 362 2 w' s4 (run (q+(tot 0 d0:Nat)+(tot 1 d1:Nat)) (L4 * 2))∧OwnI B 366 5 w' s5 (run (q+(tot 0 d0:Nat)+(tot 1 d1:Nat)+(L4 * 2:Nat)) (L5 * 5))):=by
 obtain⟨a0,n0,k0,rfl⟩:=h0.nest.shape
 obtain⟨a1,n1,k1,rfl⟩:=h1.nest.shape
 obtain⟨a4,n4,k4,rfl⟩:=h4.shape
 obtain⟨a5,n5,k5,rfl⟩:=h5.shape
 have hf0:=h0.foot;have hf1:=h1.foot
 obtain⟨Q,hQ⟩:∃ z:Int,z=q+((tot 0 d0:Nat):Int)+((tot 1 d1:Nat):Int):=⟨_,rfl⟩
 rw [← hQ] at hq1 ⊢
 have hQ0:0≤Q:=by omega
 have hQ1:q+(tot 0 d0:Nat)+(tot 1 d1:Nat)≤4611686018427387904:=by omega
 have HQ:=Lib.hid hQ
 clear hQ
 go_enter Tryz.func60,Tryz.ntmps60
 go_wp2_with fail
 refine (markDisk_c _ B _ _ ss0 _ _ ss1 q (h0.ext xT) (h1.ext xT) hd oM hQ1).mono ?_
 rintro e w1 ⟨rfl,hx1,g0,g1⟩
 rw [← HQ.out]
 have hb:Blk w1 w.heap.size 88 #[.slice a0 n0 k0,.slice a1 n1 k1,.int .i64 c2,.int .i64 c3,.slice a4 n4 k4,.slice a5 n5 k5,.int .i64 c6,.int .i64 c7,.int .i64 c8,.int .i64 c9,.int .i64 c10,.int .i64 c11]:=Blk.upd (Blk.new _ _ _) hx1 (fun hk=>by
  rcases List.mem_append.1 hk with hh|hh
  ·
   have:=hf0 _ hh;omega
  have:=hf1 _ hh;omega)
 have hc:=hb.cell;have hlt:=hb.lt
 have g4:OwnI B 362 2 w1 (.slice a4 n4 k4) d4:=OwnI.upd' (h4.ext ((Ext.refl w).alloc _)) hx1 (fun k h2 h3=>hd4 k h3 (List.mem_append_left _ h2))
 have g5:OwnI B 366 5 w1 (.slice a5 n5 k5) d5:=OwnI.upd' (h5.ext ((Ext.refl w).alloc _)) hx1 (fun k h2 h3=>hd4 k h3 (List.mem_append_right _ h2))
 go_wp2_with fail
 refine (markState_c _ B _ _ _ _ L4 hL4 _ _ L5 hL5 _ _ _ Q (g4.ext xT) (g5.ext xT) hd5 oM hq1).mono ?_
 rintro e w2 ⟨rfl,hx2,g4',g5'⟩
 clear hc
 go_wp2
 go_ret
 have HQ':=HQ.out
 subst HQ'
 refine⟨rfl,((Ext.upd ((Ext.refl w).alloc _) _).trans (hx1.more (fun k hk=>List.mem_append_left _ hk))).trans (hx2.more (fun k hk=>List.mem_append_right _ hk)),OwnNs.upd g0 hx2 (fun k h2 h3=>hd4 k (List.mem_append_left _ h2) h3),OwnNs.upd g1 hx2 (fun k h2 h3=>hd4 k (List.mem_append_right _ h2) h3),g4',g5'⟩
theorem heldStore_c (w:World) (s0:Value) (d0:List NRow) (s1:Value) (d1:List NRow) (c2 c3:Int) (s4:Value) (L4:Nat) (s5:Value) (L5:Nat) (c6 c7 c8 c9 c10 c11:Int) (q:Int)
  (h0:Nest 0 w s0 (marks 0 q d0)) (h1:Nest 1 w s1 (marks 1 (q+(tot 0 d0:Nat)) d1)) (h4:Ints 2 w s4 (run (q+(tot 0 d0:Nat)+(tot 1 d1:Nat)) (L4 * 2))) (h5:Ints 5 w s5 (run (q+(tot 0 d0:Nat)+(tot 1 d1:Nat)+(L4 * 2:Nat)) (L5 * 5)))
  (hq0:0≤q) (hq1:q+(tot 0 d0:Nat)+(tot 1 d1:Nat)+(L4 * 2:Nat)+(L5 * 5:Nat)≤4611686018427387904) :
  Calls Tryz.prog 91 #[.agg #[s0,s1,.int .i64 c2,.int .i64 c3,s4,s5,.int .i64 c6,.int .i64 c7,.int .i64 c8,.int .i64 c9,.int .i64 c10,.int .i64 c11],.int .i64 q] w (RetV w (.int .i64 (q+(tot 0 d0:Nat)+(tot 1 d1:Nat)+(L4 * 2:Nat)+(L5 * 5:Nat)))):=by
 obtain⟨a0,n0,k0,rfl⟩:=h0.shape
 obtain⟨a1,n1,k1,rfl⟩:=h1.shape
 obtain⟨a4,n4,k4,rfl⟩:=h4.shape
 obtain⟨a5,n5,k5,rfl⟩:=h5.shape
 have hQ1:q+(tot 0 d0:Nat)+(tot 1 d1:Nat)≤4611686018427387904:=by omega
 obtain⟨Q,hQ⟩:∃ z:Int,z=q+((tot 0 d0:Nat):Int)+((tot 1 d1:Nat):Int):=⟨_,rfl⟩
 rw [← hQ] at hq1 h4 h5 ⊢
 obtain⟨R,hR⟩:∃ z:Int,z=Q+((L4 * 2:Nat):Int)+((L5 * 5:Nat):Int):=⟨_,rfl⟩
 rw [← hR]
 have hQ0:0≤Q:=by omega
 have hR0:0≤R:=by omega
 have ht0:decide (Q<0)=false:=by simp;omega
 have ht1:decide (R<0)=false:=by simp;omega
 have HQ:=Lib.hid hQ;have HR:=Lib.hid hR
 clear hQ hR
 go_enter Tryz.func91,Tryz.ntmps91
 go_wp2_with fail
 refine (heldDisk_c _ _ d0 _ d1 q (h0.ext xT) (h1.ext xT) oM hQ1).mono ?_
 rintro e w1 ⟨rfl,hx1⟩
 rw [← HQ.out]
 have hb:Blk w1 w.heap.size 88 #[.slice a0 n0 k0,.slice a1 n1 k1,.int .i64 c2,.int .i64 c3,.slice a4 n4 k4,.slice a5 n5 k5,.int .i64 c6,.int .i64 c7,.int .i64 c8,.int .i64 c9,.int .i64 c10,.int .i64 c11]:=Blk.ext (Blk.new _ _ _) hx1
 have hc:=hb.cell;have hlt:=hb.lt
 go_wp2_with fail
 refine (heldState_c _ _ _ _ L4 _ L5 _ _ _ Q (h4.ext xT) (h5.ext xT) oM hq1).mono ?_
 rintro e w2 ⟨rfl,hx2⟩
 rw [← HR.out]
 clear hc
 go_wp2
 go_ret
 refine⟨rfl,?_⟩
 exact xT
theorem sNewStore_c (w:World):Calls Tryz.prog 78 #[] w (Ret w fun v w'=>∃ t0 t1:Value,∃ ss0 ss1:List Value,v=.agg #[t0,t1,.int .i64 0,.int .i64 0,.slice none 0 0,.slice none 0 0,.int .i64 0,.int .i64 0,.int .i64 0,.int .i64 0,.int .i64 0,.int .i64 0]∧OwnNs w.heap.size 62 2 0 w' t0 (nestInt64S (newDisk 8).Kept) ss0∧OwnNs w.heap.size 312 2 1 w' t1 (nestWrite (newDisk 8).Wait) ss1∧(∀ k,k ∈ feet (t0 :: ss0)→k ∈ feet (t1 :: ss1)→False)):=by
 go_enter Tryz.func78,Tryz.ntmps78
 go_wp2_with fail
 refine (sNewShelf_c _).mono ?_
 rintro e w1 ⟨_,rfl,hx1,t0,t1,ss0,ss1,rfl,g0,g1,hd⟩
 obtain⟨a0,n0,k0,rfl⟩:=g0.nest.shape
 obtain⟨a1,n1,k1,rfl⟩:=g1.nest.shape
 obtain⟨hc1,hf1⟩:=hx1.cells
 have hz1:=hx1.size
 simp only [World.size_alloc] at hc1 hf1 hz1 g0 g1
 have hy:w.heap.size<w1.heap.size:=by omega
 go_wp2
 refine bodyPost_ret (by simp [results,Tryz.results78,go_sem, *];try rfl) rfl ?_
 clear hc1 hf1
 refine⟨_,rfl,xT,_,_,ss0,ss1,rfl,(OwnNs.keep g0 chgT).mono oM,(OwnNs.keep g1 chgT).mono oM,hd⟩
theorem newStore_c (w:World):Calls Tryz.prog 72 #[] w (Ret w fun v w'=>∃ t0 t1:Value,∃ ss0 ss1:List Value,v=.agg #[t0,t1,.int .i64 0,.int .i64 0,.slice none 0 0,.slice none 0 0,.int .i64 0,.int .i64 0,.int .i64 0,.int .i64 0,.int .i64 0,.int .i64 0]∧OwnNs w.heap.size 62 2 0 w' t0 (nestInt64S (newDisk 8).Kept) ss0∧OwnNs w.heap.size 312 2 1 w' t1 (nestWrite (newDisk 8).Wait) ss1∧(∀ k,k ∈ feet (t0 :: ss0)→k ∈ feet (t1 :: ss1)→False)):=by
 go_enter Tryz.func72,Tryz.ntmps72
 go_wp2_with fail
 refine (newShelf_c _).mono ?_
 rintro e w1 ⟨_,rfl,hx1,t0,t1,ss0,ss1,rfl,g0,g1,hd⟩
 obtain⟨a0,n0,k0,rfl⟩:=g0.nest.shape
 obtain⟨a1,n1,k1,rfl⟩:=g1.nest.shape
 obtain⟨hc1,hf1⟩:=hx1.cells
 have hz1:=hx1.size
 simp only [World.size_alloc] at hc1 hf1 hz1 g0 g1
 have hy:w.heap.size<w1.heap.size:=by omega
 go_wp2
 refine bodyPost_ret (by simp [results,Tryz.results72,go_sem, *];try rfl) rfl ?_
 clear hc1 hf1
 refine⟨_,rfl,xT,_,_,ss0,ss1,rfl,(OwnNs.keep g0 chgT).mono oM,(OwnNs.keep g1 chgT).mono oM,hd⟩
def RdStore (w:World) (v:Value) (s:DStore):Prop:=∃ t0 t1 t4 t5:Value,v=.agg #[t0,t1,.int .i64 s.State.Index,.int .i64 s.State.Time,t4,t5,.int .i64 s.State.Lease.Holder,.int .i64 s.State.Lease.Epoch,.int .i64 s.State.Lease.Until,.int .i64 s.Num,.int .i64 s.Last,.int .i64 s.Busy]∧Nest 0 w t0 (nestInt64S s.Disk.Kept)∧Nest 1 w t1 (nestWrite s.Disk.Wait)∧Ints 2 w t4 (flPair s.State.Pairs)∧Ints 5 w t5 (flJob s.State.Jobs)
def OwStore (B:Nat) (w:World) (v:Value) (s:DStore) (F:List Nat):Prop:=∃ t0 t1 t4 t5:Value,∃ ss0 ss1:List Value,v=.agg #[t0,t1,.int .i64 s.State.Index,.int .i64 s.State.Time,t4,t5,.int .i64 s.State.Lease.Holder,.int .i64 s.State.Lease.Epoch,.int .i64 s.State.Lease.Until,.int .i64 s.Num,.int .i64 s.Last,.int .i64 s.Busy]∧OwnNs B 62 2 0 w t0 (nestInt64S s.Disk.Kept) ss0∧OwnNs B 312 2 1 w t1 (nestWrite s.Disk.Wait) ss1∧OwnI B 362 2 w t4 (flPair s.State.Pairs)∧OwnI B 366 5 w t5 (flJob s.State.Jobs)∧(∀ k,k ∈ feet (t0 :: ss0)→k ∈ feet (t1 :: ss1)→False)∧F=(feet (t0 :: ss0) ++ feet (t1 :: ss1)) ++ (feet [t4] ++ feet [t5])
def nStore (s:DStore):Nat:=tot 0 (nestInt64S s.Disk.Kept)+tot 1 (nestWrite s.Disk.Wait)+s.State.Pairs.length * 2+s.State.Jobs.length * 5
def MkStore (B:Nat) (w:World) (v:Value) (s:DStore) (F:List Nat) (q:Int):Prop:=∃ t0 t1 t4 t5:Value,∃ ss0 ss1:List Value,v=.agg #[t0,t1,.int .i64 s.State.Index,.int .i64 s.State.Time,t4,t5,.int .i64 s.State.Lease.Holder,.int .i64 s.State.Lease.Epoch,.int .i64 s.State.Lease.Until,.int .i64 s.Num,.int .i64 s.Last,.int .i64 s.Busy]∧OwnNs B 62 2 0 w t0 (marks 0 q (nestInt64S s.Disk.Kept)) ss0∧OwnNs B 312 2 1 w t1 (marks 1 (q+(tot 0 (nestInt64S s.Disk.Kept):Nat)) (nestWrite s.Disk.Wait)) ss1∧OwnI B 362 2 w t4 (run (q+(tot 0 (nestInt64S s.Disk.Kept):Nat)+(tot 1 (nestWrite s.Disk.Wait):Nat)) (s.State.Pairs.length * 2))∧OwnI B 366 5 w t5 (run (q+(tot 0 (nestInt64S s.Disk.Kept):Nat)+(tot 1 (nestWrite s.Disk.Wait):Nat)+(s.State.Pairs.length * 2:Nat)) (s.State.Jobs.length * 5))
section
variable {B B':Nat} {w w':World} {v:Value} {s s':DStore} {F:List Nat} {q:Int}
theorem RdStore.shape (h:RdStore w v s):∃ a0 n0 k0 a1 n1 k1 a4 n4 k4 a5 n5 k5,v=.agg #[.slice a0 n0 k0,.slice a1 n1 k1,.int .i64 s.State.Index,.int .i64 s.State.Time,.slice a4 n4 k4,.slice a5 n5 k5,.int .i64 s.State.Lease.Holder,.int .i64 s.State.Lease.Epoch,.int .i64 s.State.Lease.Until,.int .i64 s.Num,.int .i64 s.Last,.int .i64 s.Busy]:=by
 obtain⟨t0,t1,t4,t5,rfl,h0,h1,h4,h5⟩:=h
 obtain⟨a0,n0,k0,rfl⟩:=h0.shape
 obtain⟨a1,n1,k1,rfl⟩:=h1.shape
 obtain⟨a4,n4,k4,rfl⟩:=h4.shape
 obtain⟨a5,n5,k5,rfl⟩:=h5.shape
 exact⟨a0,n0,k0,a1,n1,k1,a4,n4,k4,a5,n5,k5,rfl⟩
theorem RdStore.ext (h:RdStore w v s) (x:Ext w w'):RdStore w' v s:=let ⟨t0,t1,t4,t5,e,h0,h1,h4,h5⟩:=h;⟨t0,t1,t4,t5,e,h0.ext x,h1.ext x,h4.ext x,h5.ext x⟩
theorem OwStore.rd (h:OwStore B w v s F):RdStore w v s:=let ⟨t0,t1,t4,t5,_,_,e,h0,h1,h4,h5,_,_⟩:=h;⟨t0,t1,t4,t5,e,h0.nest,h1.nest,h4.ints,h5.ints⟩
theorem OwStore.ext (h:OwStore B w v s F) (x:Ext w w'):OwStore B w' v s F:=let ⟨t0,t1,t4,t5,s0,s1,e,h0,h1,h4,h5,hd,hF⟩:=h;⟨t0,t1,t4,t5,s0,s1,e,h0.ext x,h1.ext x,Own.ext h4 x,Own.ext h5 x,hd,hF⟩
theorem OwStore.keep (h:OwStore B w v s F) (x:Chg B w w'):OwStore B w' v s F:=let ⟨t0,t1,t4,t5,s0,s1,e,h0,h1,h4,h5,hd,hF⟩:=h;⟨t0,t1,t4,t5,s0,s1,e,h0.keep x,h1.keep x,h4.keep x,h5.keep x,hd,hF⟩
theorem OwStore.mono (h:OwStore B w v s F) (x:B'≤B):OwStore B' w v s F:=let ⟨t0,t1,t4,t5,s0,s1,e,h0,h1,h4,h5,hd,hF⟩:=h;⟨t0,t1,t4,t5,s0,s1,e,h0.mono x,h1.mono x,h4.mono x,h5.mono x,hd,hF⟩
theorem OwStore.cast (h:OwStore B w v s F) (e:s=s'):OwStore B w v s' F:=e ▸ h
theorem OwStore.upd (h:OwStore B w v s F) {fs:List Nat} (x:Upd w w' fs) (hn:∀ k,k ∈ F→k ∈ fs→False):OwStore B w' v s F:=by
 obtain⟨t0,t1,t4,t5,s0,s1,e,h0,h1,h4,h5,hd,rfl⟩:=h
 exact⟨t0,t1,t4,t5,s0,s1,e,h0.upd x (fun k h=>hn k (List.mem_append_left _ (List.mem_append_left _ h))),h1.upd x (fun k h=>hn k (List.mem_append_left _ (List.mem_append_right _ h))),OwnI.upd' h4 x (fun k h=>hn k (List.mem_append_right _ (List.mem_append_left _ h))),OwnI.upd' h5 x (fun k h=>hn k (List.mem_append_right _ (List.mem_append_right _ h))),hd,rfl⟩
theorem OwStore.low (h:OwStore B w v s F):∀ k,k ∈ F→B≤k∧k<w.heap.size:=by
 obtain⟨t0,t1,t4,t5,s0,s1,e,h0,h1,h4,h5,hd,rfl⟩:=h
 intro k hk
 rcases List.mem_append.1 hk with h|h
 ·
  rcases List.mem_append.1 h with h|h
  ·
   exact h0.foot k h
  exact h1.foot k h
 rcases List.mem_append.1 h with h|h
 ·
  exact h4.foot k h
 exact h5.foot k h
theorem MkStore.ext (h:MkStore B w v s F q) (x:Ext w w'):MkStore B w' v s F q:=let ⟨t0,t1,t4,t5,s0,s1,e,h0,h1,h4,h5⟩:=h;⟨t0,t1,t4,t5,s0,s1,e,h0.ext x,h1.ext x,Own.ext h4 x,Own.ext h5 x⟩
theorem held_Store (h:MkStore B w v s F q) (hq0:0≤q) (hq1:q+(nStore s:Nat)≤4611686018427387904) :
  Calls Tryz.prog 91 #[v,.int .i64 q] w (RetV w (.int .i64 (q+(nStore s:Nat)))):=by
 obtain⟨t0,t1,t4,t5,s0,s1,rfl,h0,h1,h4,h5⟩:=h
 unfold nStore at hq1 ⊢
 refine (heldStore_c w t0 _ t1 _ _ _ t4 s.State.Pairs.length t5 s.State.Jobs.length _ _ _ _ _ _ q h0.nest h1.nest h4.ints h5.ints hq0 oM).mono ?_
 rintro e w' ⟨rfl,hx⟩
 refine⟨?_,hx⟩
 exact congrArg (fun z:Int=>Ending.returned (Value.int .i64 z)) oM
theorem eq_Store {u:Value} (h:RdStore w v s) (k:RdStore w u s):Calls Tryz.prog 53 #[v,u] w (RetV w (.bool true)):=by
 obtain⟨t0,t1,t4,t5,rfl,h0,h1,h4,h5⟩:=h
 obtain⟨u0,u1,u4,u5,rfl,k0,k1,k4,k5⟩:=k
 exact eqStore_c w t0 u0 _ t1 u1 _ _ _ t4 u4 _ t5 u5 _ _ _ _ _ _ _ h0 k0 h1 k1 h4 k4 h5 k5
end
end Go.Proofs.YtkpmbocbbgocbaaGreat
namespace Go.G8
noncomputable def storeOk (s:DStore):Bool:=shelfOk s.Disk && (stateOk s.State && (inb s.Num 0 1000000000 && (inb s.Last 0 s.State.Index && ((decide (s.Num=0) == decide (s.Last=0)) && (decide (s.Busy=0) || (decide (s.Num<1000000000) && (decide (s.Last<s.Busy) && decide (s.Busy≤s.State.Index))))))))
theorem stateOk_index {s:DState} (h:stateOk s=true):0≤s.Index∧s.Index≤2000:=by
 simp only [stateOk,Bool.and_eq_true] at h
 exact inb_true.1 h.1
end Go.G8
namespace Go.Proofs.YtkpmbocbbgocbaaGreat
open Go.RowKit Go.G8
theorem sStoreOk_c (w:World) (s0_0:Value) (l0_0:List (List Int)) (s0_1:Value) (l0_1:List DWrite) (c0_2:Int) (c0_3:Int) (s0_4:Value) (l0_4:List DPair) (s0_5:Value) (l0_5:List DJob) (c0_6:Int) (c0_7:Int) (c0_8:Int) (c0_9:Int) (c0_10:Int) (c0_11:Int) (h0_0:Nest 0 w s0_0 (nestInt64S l0_0)) (h0_1:Nest 1 w s0_1 (nestWrite l0_1)) (h0_4:Ints 2 w s0_4 (flPair l0_4)) (h0_5:Ints 5 w s0_5 (flJob l0_5)) :
  Calls Tryz.prog 210 #[.agg #[s0_0,s0_1,.int .i64 c0_2,.int .i64 c0_3,s0_4,s0_5,.int .i64 c0_6,.int .i64 c0_7,.int .i64 c0_8,.int .i64 c0_9,.int .i64 c0_10,.int .i64 c0_11]] w (RetV w (.bool (storeOk (⟨⟨l0_0,l0_1⟩,⟨c0_2,c0_3,l0_4,l0_5,⟨c0_6,c0_7,c0_8⟩⟩,c0_9,c0_10,c0_11⟩:DStore)))):=by
 obtain⟨a0_0,n0_0,k0_0,rfl⟩:=h0_0.shape
 obtain⟨a0_1,n0_1,k0_1,rfl⟩:=h0_1.shape
 obtain⟨a0_4,n0_4,k0_4,rfl⟩:=h0_4.shape
 obtain⟨a0_5,n0_5,k0_5,rfl⟩:=h0_5.shape
 by_cases hl:0≤c0_10∧c0_10≤2000
 obtain⟨hl1,hl2⟩:=hl
 rotate_left
 have hno:stateOk (⟨c0_2,c0_3,l0_4,l0_5,⟨c0_6,c0_7,c0_8⟩⟩:DState)=true→inb c0_10 0 c0_2=false:=fun h=>by
  have:=stateOk_index h
  simp only [] at this
  by_cases h1:inb c0_10 0 c0_2=true
  ·
   have h2:=inb_true.1 h1
   exact (hl ⟨by omega,by omega⟩).elim
  simpa using h1
 clear hl
 all_goals
   have rsize_setRow:=@size_setRow
   have rcell_setRow_lt:=@cell_setRow_lt
   have rcell_setRow_gt:=@cell_setRow_gt
   have rfrozen_setRow_lt:=@frozen_setRow_lt
   have rfrozen_setRow_gt:=@frozen_setRow_gt
   go_enter Tryz.func210,Tryz.ntmps210
   go_wp2_with (first|(go_at_call 315;refine (sShelfOk_c _ _ _ _ _ (by first|(with_reducible exact Nest.ext (by assumption) xT)|(with_reducible exact Nest.ext (OwnNest.nest (by assumption)) xT)) (by first|(with_reducible exact Nest.ext (by assumption) xT)|(with_reducible exact Nest.ext (OwnNest.nest (by assumption)) xT)) ).mono ?_;rintro e wa ⟨rfl,hxa⟩;have hza:=hxa.size;(repeat (first|simp only [World.size_alloc] at hza|simp only [World.size_setCell] at hza|simp only [size_setRow] at hza));(try have hya_b_0:wb.heap.size<wa.heap.size:=oM);(try have hya_b_1:wb.heap.size+1<wa.heap.size:=oM);(try have hya_b_2:wb.heap.size+1+1<wa.heap.size:=oM);(try have hya_c_0:wc.heap.size<wa.heap.size:=oM);(try have hya_c_1:wc.heap.size+1<wa.heap.size:=oM);(try have hya_c_2:wc.heap.size+1+1<wa.heap.size:=oM);have Ka0:Blk wa (w.heap.size) 88 _:=Blk.ext (by exact blkT) hxa;(try simp only [List.setIfInBounds_toArray,List.set_cons_zero,List.set_cons_succ] at Ka0);have CKa0:=Ka0.cell;have FKa0:=Ka0.frozen;have hya__0:w.heap.size<wa.heap.size:=oM;(try (have Ka_b0:Blk wa (wb.heap.size) _ _:=Blk.ext (by exact blkT) hxa;(try simp only [List.setIfInBounds_toArray,List.set_cons_zero,List.set_cons_succ] at Ka_b0);have CKa_b0:=Ka_b0.cell;have FKa_b0:=Ka_b0.frozen));(try (have Ka_b1:Blk wa (wb.heap.size+1) _ _:=Blk.ext (by exact blkT) hxa;(try simp only [List.setIfInBounds_toArray,List.set_cons_zero,List.set_cons_succ] at Ka_b1);have CKa_b1:=Ka_b1.cell;have FKa_b1:=Ka_b1.frozen));(try (have Ka_b2:Blk wa (wb.heap.size+1+1) _ _:=Blk.ext (by exact blkT) hxa;(try simp only [List.setIfInBounds_toArray,List.set_cons_zero,List.set_cons_succ] at Ka_b2);have CKa_b2:=Ka_b2.cell;have FKa_b2:=Ka_b2.frozen));(try (have Ka_c0:Blk wa (wc.heap.size) _ _:=Blk.ext (by exact blkT) hxa;(try simp only [List.setIfInBounds_toArray,List.set_cons_zero,List.set_cons_succ] at Ka_c0);have CKa_c0:=Ka_c0.cell;have FKa_c0:=Ka_c0.frozen));(try (have Ka_c1:Blk wa (wc.heap.size+1) _ _:=Blk.ext (by exact blkT) hxa;(try simp only [List.setIfInBounds_toArray,List.set_cons_zero,List.set_cons_succ] at Ka_c1);have CKa_c1:=Ka_c1.cell;have FKa_c1:=Ka_c1.frozen));(try (have Ka_c2:Blk wa (wc.heap.size+1+1) _ _:=Blk.ext (by exact blkT) hxa;(try simp only [List.setIfInBounds_toArray,List.set_cons_zero,List.set_cons_succ] at Ka_c2);have CKa_c2:=Ka_c2.cell;have FKa_c2:=Ka_c2.frozen)))|(go_at_call 316;refine (sStateOk_c _ _ _ _ _ _ _ _ _ _ (by first|(with_reducible exact Ints.ext (by assumption) xT)|(with_reducible exact Ints.ext (OwnI.ints (by assumption)) xT)|with_reducible exact rnil_flPair _ _) (by first|(with_reducible exact Ints.ext (by assumption) xT)|(with_reducible exact Ints.ext (OwnI.ints (by assumption)) xT)|with_reducible exact rnil_flJob _ _) ).mono ?_;rintro e wb ⟨rfl,hxb⟩;have hzb:=hxb.size;(repeat (first|simp only [World.size_alloc] at hzb|simp only [World.size_setCell] at hzb|simp only [size_setRow] at hzb));(try have hyb_a_0:wa.heap.size<wb.heap.size:=oM);(try have hyb_a_1:wa.heap.size+1<wb.heap.size:=oM);(try have hyb_a_2:wa.heap.size+1+1<wb.heap.size:=oM);(try have hyb_c_0:wc.heap.size<wb.heap.size:=oM);(try have hyb_c_1:wc.heap.size+1<wb.heap.size:=oM);(try have hyb_c_2:wc.heap.size+1+1<wb.heap.size:=oM);have Kb0:Blk wb (w.heap.size) 88 _:=Blk.ext (by exact blkT) hxb;(try simp only [List.setIfInBounds_toArray,List.set_cons_zero,List.set_cons_succ] at Kb0);have CKb0:=Kb0.cell;have FKb0:=Kb0.frozen;have hyb__0:w.heap.size<wb.heap.size:=oM;(try (have Kb_a0:Blk wb (wa.heap.size) _ _:=Blk.ext (by exact blkT) hxb;(try simp only [List.setIfInBounds_toArray,List.set_cons_zero,List.set_cons_succ] at Kb_a0);have CKb_a0:=Kb_a0.cell;have FKb_a0:=Kb_a0.frozen));(try (have Kb_a1:Blk wb (wa.heap.size+1) _ _:=Blk.ext (by exact blkT) hxb;(try simp only [List.setIfInBounds_toArray,List.set_cons_zero,List.set_cons_succ] at Kb_a1);have CKb_a1:=Kb_a1.cell;have FKb_a1:=Kb_a1.frozen));(try (have Kb_a2:Blk wb (wa.heap.size+1+1) _ _:=Blk.ext (by exact blkT) hxb;(try simp only [List.setIfInBounds_toArray,List.set_cons_zero,List.set_cons_succ] at Kb_a2);have CKb_a2:=Kb_a2.cell;have FKb_a2:=Kb_a2.frozen));(try (have Kb_c0:Blk wb (wc.heap.size) _ _:=Blk.ext (by exact blkT) hxb;(try simp only [List.setIfInBounds_toArray,List.set_cons_zero,List.set_cons_succ] at Kb_c0);have CKb_c0:=Kb_c0.cell;have FKb_c0:=Kb_c0.frozen));(try (have Kb_c1:Blk wb (wc.heap.size+1) _ _:=Blk.ext (by exact blkT) hxb;(try simp only [List.setIfInBounds_toArray,List.set_cons_zero,List.set_cons_succ] at Kb_c1);have CKb_c1:=Kb_c1.cell;have FKb_c1:=Kb_c1.frozen));(try (have Kb_c2:Blk wb (wc.heap.size+1+1) _ _:=Blk.ext (by exact blkT) hxb;(try simp only [List.setIfInBounds_toArray,List.set_cons_zero,List.set_cons_succ] at Kb_c2);have CKb_c2:=Kb_c2.cell;have FKb_c2:=Kb_c2.frozen)))|(go_at_call 303;refine (l1In_c _ _ _ _  ).mono ?_;rintro e wc ⟨rfl,rfl⟩))
   all_goals
    go_ret
    refine⟨by first|rfl|(simp [storeOk,inb,Int.add_one_le_iff, *];done)|(simp [storeOk,inb,Int.add_one_le_iff, *];omega)|(simp_all [storeOk,inb,Int.add_one_le_iff,bq,bn];done)|(simp_all [storeOk,inb,Int.add_one_le_iff,bq,bn];omega),?_⟩
    exact xT
section
variable {B:Nat} {w:World}
theorem OwStore.nil (B:Nat) (w:World):OwStore B w (.agg #[.slice none 0 0,.slice none 0 0,.int .i64 0,.int .i64 0,.slice none 0 0,.slice none 0 0,.int .i64 0,.int .i64 0,.int .i64 0,.int .i64 0,.int .i64 0,.int .i64 0]) ⟨⟨[],[]⟩,⟨0,0,[],[],⟨0,0,0⟩⟩,0,0,0⟩ [] :=
 ⟨_,_,_,_,[],[],rfl,OwnNs.nil _ _ _ _ _,OwnNs.nil _ _ _ _ _,OwnI.nil _ _ _ _,OwnI.nil _ _ _ _,by simp [feet,Value.ownBlock],by simp [feet,Value.ownBlock]⟩
theorem IsDisk.store {a b:Value} {d:DDisk} (h:IsDisk B w (.agg #[a,b]) d):∃ F,OwStore B w (.agg #[a,b,.int .i64 0,.int .i64 0,.slice none 0 0,.slice none 0 0,.int .i64 0,.int .i64 0,.int .i64 0,.int .i64 0,.int .i64 0,.int .i64 0]) ⟨d,⟨0,0,[],[],⟨0,0,0⟩⟩,0,0,0⟩ F:=by
 obtain⟨t0,t1,ss0,ss1,e,h0,h1,hd⟩:=h
 injection e with e;injection e with e;injection e with e1 e;injection e with e2 _
 subst e1;subst e2
 exact⟨_,_,_,_,_,ss0,ss1,rfl,h0,h1,OwnI.nil _ _ _ _,OwnI.nil _ _ _ _,hd,rfl⟩
end
theorem sStoreOk_k {w:World} {v:Value} {s:DStore} (h:RdStore w v s):Calls Tryz.prog 210 #[v] w (RetV w (.bool (storeOk s))):=by
 obtain⟨t0,t1,t4,t5,rfl,h0,h1,h4,h5⟩:=h
 exact sStoreOk_c w t0 s.Disk.Kept t1 s.Disk.Wait s.State.Index s.State.Time t4 s.State.Pairs t5 s.State.Jobs s.State.Lease.Holder s.State.Lease.Epoch s.State.Lease.Until s.Num s.Last s.Busy h0 h1 h4 h5
end Go.Proofs.YtkpmbocbbgocbaaGreat
