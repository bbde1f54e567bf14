/- HelpH Q9 S5 KS P7 Q10. -/
import Derived.Test.YtkpmbocbbgocbaaGreatGa
import Derived.Test.YtkpmbocbbgocbaaGreatGb
import Derived.Test.YtkpmbocbbgocbaaGreatGi
import Derived.Test.YtkpmbocbbgocbaaGreatGu
import Derived.Test.YtkpmbocbbgocbaaGreatGe
import Derived.Test.YtkpmbocbbgocbaaGreatGv
import Derived.Test.YtkpmbocbbgocbaaGreatGw
set_option linter.unusedSimpArgs false
set_option linter.unusedVariables false
set_option maxHeartbeats 8000000
set_option maxRecDepth 100000
namespace Go.Proofs.YtkpmbocbbgocbaaGreat
open Go.RowKit Go.G8
theorem szStore_c (w:World) (s0:Value) (d0:List (List Int × List Int)) (s1:Value) (d1:List (List Int × List Int)) (c2:Int) (c3:Int) (s4:Value) (d4:List Int) (L4:Nat) (hL4:d4.length=L4 * 2) (s5:Value) (d5:List Int) (L5:Nat) (hL5:d5.length=L5 * 5) (c6:Int) (c7:Int) (c8:Int) (c9:Int) (c10:Int) (c11:Int) (left:Int) (h0:Nest 0 w s0 d0) (h1:Nest 1 w s1 d1) (h4:Ints 2 w s4 d4) (h5:Ints 5 w s5 d5) (hb0:0≤left) (hb1:left≤1048576) :
  Calls Tryz.prog 34 #[.agg #[s0,s1,.int .i64 c2,.int .i64 c3,s4,s5,.int .i64 c6,.int .i64 c7,.int .i64 c8,.int .i64 c9,.int .i64 c10,.int .i64 c11],.int .i64 left] w (Ret w fun v' _=>SzR left (rowsSize d0+rowsSize d1+L4+L5) v'):=by
 go_enter Tryz.func34,Tryz.ntmps34
 go_wp2_with (first|(go_at_call 101;refine (szDisk_c _ s0 d0 s1 d1 _ (h0.ext xT) (h1.ext xT) oM oM).mono ?_;rintro e w1 ⟨v1,rfl,hx1,hv⟩;have hz1:=hx1.size;obtain⟨hc1,hf1⟩:=hx1.cells;(repeat (first|simp only [World.size_alloc] at hz1 hc1 hf1|simp only [World.size_setCell] at hz1 hc1 hf1));have hy1_0:w.heap.size<w1.heap.size:=oM;rcases hv with ⟨rfl,q1⟩|⟨rfl,q1⟩)|(go_at_call 102;refine (szState_c _ c2 c3 s4 d4 L4 hL4 s5 d5 L5 hL5 c6 c7 c8 _ (h4.ext xT) (h5.ext xT) oM oM).mono ?_;rintro e w2 ⟨v2,rfl,hx2,hv⟩;have hz2:=hx2.size;obtain⟨hc2,hf2⟩:=hx2.cells;(repeat (first|simp only [World.size_alloc] at hz2 hc2 hf2|simp only [World.size_setCell] at hz2 hc2 hf2));have hy2_0:w.heap.size<w2.heap.size:=oM;rcases hv with ⟨rfl,q2⟩|⟨rfl,q2⟩))
 all_goals
  go_ret
  refine⟨_,rfl,?_,?_⟩
  ·
   exact xT
  first|exact .inl ⟨rfl,by omega⟩|(refine .inr ⟨congrArg (Value.int .i64) ?_,?_⟩ <;> omega)
def RdStore (w:World) (v:Value) (s:DStore):Prop:=∃ t0 t1 t4 t5:Value,v=.agg #[t0,t1,.int .i64 s.State.Index,.int .i64 s.State.Time,t4,t5,.int .i64 s.State.Lease.Holder,.int .i64 s.State.Lease.Epoch,.int .i64 s.State.Lease.Until,.int .i64 s.Num,.int .i64 s.Last,.int .i64 s.Busy]∧Nest 0 w t0 (nestInt64S s.Disk.Kept)∧Nest 1 w t1 (nestWrite s.Disk.Wait)∧Ints 2 w t4 (flPair s.State.Pairs)∧Ints 5 w t5 (flJob s.State.Jobs)
def OwStore (B:Nat) (w:World) (v:Value) (s:DStore) (F:List Nat):Prop:=∃ t0 t1 t4 t5:Value,∃ ss0 ss1:List Value,v=.agg #[t0,t1,.int .i64 s.State.Index,.int .i64 s.State.Time,t4,t5,.int .i64 s.State.Lease.Holder,.int .i64 s.State.Lease.Epoch,.int .i64 s.State.Lease.Until,.int .i64 s.Num,.int .i64 s.Last,.int .i64 s.Busy]∧OwnNs B 62 2 0 w t0 (nestInt64S s.Disk.Kept) ss0∧OwnNs B 312 2 1 w t1 (nestWrite s.Disk.Wait) ss1∧OwnI B 362 2 w t4 (flPair s.State.Pairs)∧OwnI B 366 5 w t5 (flJob s.State.Jobs)∧(∀ k,k ∈ feet (t0 :: ss0)→k ∈ feet (t1 :: ss1)→False)∧F=(feet (t0 :: ss0) ++ feet (t1 :: ss1)) ++ (feet [t4] ++ feet [t5])
def MkStore (B:Nat) (w:World) (v:Value) (s:DStore) (F:List Nat) (q:Int):Prop:=∃ t0 t1 t4 t5:Value,∃ ss0 ss1:List Value,v=.agg #[t0,t1,.int .i64 s.State.Index,.int .i64 s.State.Time,t4,t5,.int .i64 s.State.Lease.Holder,.int .i64 s.State.Lease.Epoch,.int .i64 s.State.Lease.Until,.int .i64 s.Num,.int .i64 s.Last,.int .i64 s.Busy]∧OwnNs B 62 2 0 w t0 (marks 0 q (nestInt64S s.Disk.Kept)) ss0∧OwnNs B 312 2 1 w t1 (marks 1 (q+(tot 0 (nestInt64S s.Disk.Kept):Nat)) (nestWrite s.Disk.Wait)) ss1∧OwnI B 362 2 w t4 (run (q+(tot 0 (nestInt64S s.Disk.Kept):Nat)+(tot 1 (nestWrite s.Disk.Wait):Nat)) (s.State.Pairs.length * 2))∧OwnI B 366 5 w t5 (run (q+(tot 0 (nestInt64S s.Disk.Kept):Nat)+(tot 1 (nestWrite s.Disk.Wait):Nat)+(s.State.Pairs.length * 2:Nat)) (s.State.Jobs.length * 5))
section
variable {B B':Nat} {w w':World} {v:Value} {s s':DStore} {F:List Nat} {q:Int}
theorem RdStore.shape (h:RdStore w v s):∃ a0 n0 k0 a1 n1 k1 a4 n4 k4 a5 n5 k5,v=.agg #[.slice a0 n0 k0,.slice a1 n1 k1,.int .i64 s.State.Index,.int .i64 s.State.Time,.slice a4 n4 k4,.slice a5 n5 k5,.int .i64 s.State.Lease.Holder,.int .i64 s.State.Lease.Epoch,.int .i64 s.State.Lease.Until,.int .i64 s.Num,.int .i64 s.Last,.int .i64 s.Busy]:=by
 obtain⟨t0,t1,t4,t5,rfl,h0,h1,h4,h5⟩:=h
 obtain⟨a0,n0,k0,rfl⟩:=h0.shape
 obtain⟨a1,n1,k1,rfl⟩:=h1.shape
 obtain⟨a4,n4,k4,rfl⟩:=h4.shape
 obtain⟨a5,n5,k5,rfl⟩:=h5.shape
 exact⟨a0,n0,k0,a1,n1,k1,a4,n4,k4,a5,n5,k5,rfl⟩
theorem RdStore.ext (h:RdStore w v s) (x:Ext w w'):RdStore w' v s:=let ⟨t0,t1,t4,t5,e,h0,h1,h4,h5⟩:=h;⟨t0,t1,t4,t5,e,h0.ext x,h1.ext x,h4.ext x,h5.ext x⟩
theorem OwStore.rd (h:OwStore B w v s F):RdStore w v s:=let ⟨t0,t1,t4,t5,_,_,e,h0,h1,h4,h5,_,_⟩:=h;⟨t0,t1,t4,t5,e,h0.nest,h1.nest,h4.ints,h5.ints⟩
theorem OwStore.ext (h:OwStore B w v s F) (x:Ext w w'):OwStore B w' v s F:=let ⟨t0,t1,t4,t5,s0,s1,e,h0,h1,h4,h5,hd,hF⟩:=h;⟨t0,t1,t4,t5,s0,s1,e,h0.ext x,h1.ext x,Own.ext h4 x,Own.ext h5 x,hd,hF⟩
theorem OwStore.keep (h:OwStore B w v s F) (x:Chg B w w'):OwStore B w' v s F:=let ⟨t0,t1,t4,t5,s0,s1,e,h0,h1,h4,h5,hd,hF⟩:=h;⟨t0,t1,t4,t5,s0,s1,e,h0.keep x,h1.keep x,h4.keep x,h5.keep x,hd,hF⟩
theorem OwStore.mono (h:OwStore B w v s F) (x:B'≤B):OwStore B' w v s F:=let ⟨t0,t1,t4,t5,s0,s1,e,h0,h1,h4,h5,hd,hF⟩:=h;⟨t0,t1,t4,t5,s0,s1,e,h0.mono x,h1.mono x,h4.mono x,h5.mono x,hd,hF⟩
theorem OwStore.cast (h:OwStore B w v s F) (e:s=s'):OwStore B w v s' F:=e ▸ h
theorem OwStore.upd (h:OwStore B w v s F) {fs:List Nat} (x:Upd w w' fs) (hn:∀ k,k ∈ F→k ∈ fs→False):OwStore B w' v s F:=by
 obtain⟨t0,t1,t4,t5,s0,s1,e,h0,h1,h4,h5,hd,rfl⟩:=h
 exact⟨t0,t1,t4,t5,s0,s1,e,h0.upd x (fun k h=>hn k (List.mem_append_left _ (List.mem_append_left _ h))),h1.upd x (fun k h=>hn k (List.mem_append_left _ (List.mem_append_right _ h))),OwnI.upd' h4 x (fun k h=>hn k (List.mem_append_right _ (List.mem_append_left _ h))),OwnI.upd' h5 x (fun k h=>hn k (List.mem_append_right _ (List.mem_append_right _ h))),hd,rfl⟩
theorem OwStore.low (h:OwStore B w v s F):∀ k,k ∈ F→B≤k∧k<w.heap.size:=by
 obtain⟨t0,t1,t4,t5,s0,s1,e,h0,h1,h4,h5,hd,rfl⟩:=h
 intro k hk
 rcases List.mem_append.1 hk with h|h
 ·
  rcases List.mem_append.1 h with h|h
  ·
   exact h0.foot k h
  exact h1.foot k h
 rcases List.mem_append.1 h with h|h
 ·
  exact h4.foot k h
 exact h5.foot k h
theorem MkStore.ext (h:MkStore B w v s F q) (x:Ext w w'):MkStore B w' v s F q:=let ⟨t0,t1,t4,t5,s0,s1,e,h0,h1,h4,h5⟩:=h;⟨t0,t1,t4,t5,s0,s1,e,h0.ext x,h1.ext x,Own.ext h4 x,Own.ext h5 x⟩
theorem sz_Store (h:RdStore w v s) {left:Int} (h0:0≤left) (h1:left≤1048576) :
  Calls Tryz.prog 34 #[v,.int .i64 left] w (Ret w fun v' _=>SzR left (rowsSize (nestInt64S s.Disk.Kept)+rowsSize (nestWrite s.Disk.Wait)+s.State.Pairs.length+s.State.Jobs.length) v'):=by
 obtain⟨t0,t1,t4,t5,rfl,g0,g1,g4,g5⟩:=h
 exact szStore_c w t0 _ t1 _ _ _ t4 _ _ (length_flPair _) t5 _ _ (length_flJob _) _ _ _ _ _ _ left g0 g1 g4 g5 h0 h1
theorem eq_Store {u:Value} (h:RdStore w v s) (k:RdStore w u s):Calls Tryz.prog 53 #[v,u] w (RetV w (.bool true)):=by
 obtain⟨t0,t1,t4,t5,rfl,h0,h1,h4,h5⟩:=h
 obtain⟨u0,u1,u4,u5,rfl,k0,k1,k4,k5⟩:=k
 exact eqStore_c w t0 u0 _ t1 u1 _ _ _ t4 u4 _ t5 u5 _ _ _ _ _ _ _ h0 k0 h1 k1 h4 k4 h5 k5
end
theorem toStore2_c (w:World) (s0:Value) (d0:List (List Int × List Int)) (s1:Value) (d1:List (List Int × List Int)) (c2:Int) (c3:Int) (s4:Value) (d4:List Int) (L4:Nat) (hL4:d4.length=L4 * 2) (s5:Value) (d5:List Int) (L5:Nat) (hL5:d5.length=L5 * 5) (c6:Int) (c7:Int) (c8:Int) (c9:Int) (c10:Int) (c11:Int) (h0:Nest 0 w s0 d0) (hs0:rowsSize d0≤1048576) (h1:Nest 1 w s1 d1) (hs1:rowsSize d1≤1048576) (h4:Ints 2 w s4 d4) (hs4:L4≤1048576) (h5:Ints 5 w s5 d5) (hs5:L5≤1048576) :
  Calls Tryz.prog 44 #[.agg #[s0,s1,.int .i64 c2,.int .i64 c3,s4,s5,.int .i64 c6,.int .i64 c7,.int .i64 c8,.int .i64 c9,.int .i64 c10,.int .i64 c11]] w (Ret w fun v w'=>∃ t0 t1 t4 t5:Value,v=.agg #[t0,t1,.int .i64 c2,.int .i64 c3,t4,t5,.int .i64 c6,.int .i64 c7,.int .i64 c8,.int .i64 c9,.int .i64 c10,.int .i64 c11]∧∃ ss0 ss1:List Value,OwnNs w.heap.size 62 2 0 w' t0 d0 ss0∧OwnNs w.heap.size 312 2 1 w' t1 d1 ss1∧(∀ k,k ∈ feet (t0 :: ss0)→k ∈ feet (t1 :: ss1)→False)∧OwnI w.heap.size 362 2 w' t4 d4∧OwnI w.heap.size 366 5 w' t5 d5):=by
 go_enter Tryz.func44,Tryz.ntmps44
 go_wp2_with (first|(go_at_call 124;refine (toDisk2_c _ s0 d0 s1 d1 (h0.ext xT) hs0 (h1.ext xT) hs1).mono ?_;rintro e w1 ⟨_,rfl,hx1,t0,t1,rfl,ss0,ss1,g0,g1,hd⟩;obtain⟨ta0,tn0,tc0,rfl⟩:=g0.nest.shape;obtain⟨ta1,tn1,tc1,rfl⟩:=g1.nest.shape;have hz1:=hx1.size;obtain⟨hc1,hf1⟩:=hx1.cells;(repeat (first|simp only [World.size_alloc] at hz1 hc1 hf1 g0 g1|simp only [World.size_setCell] at hz1 hc1 hf1 g0 g1));have hy1_0:w.heap.size<w1.heap.size:=oM;have hy1_1:w.heap.size+1<w1.heap.size:=oM;have hy1_2:w.heap.size+1+1<w1.heap.size:=oM)|(go_at_call 125;refine (toState_c _ c2 c3 s4 d4 L4 hL4 s5 d5 L5 hL5 c6 c7 c8 (h4.ext xT) hs4 (h5.ext xT) hs5).mono ?_;rintro e w2 ⟨_,rfl,hx2,t4,t5,rfl,g4,g5⟩;obtain⟨ta4,tn4,tc4,rfl⟩:=g4.shape;obtain⟨ta5,tn5,tc5,rfl⟩:=g5.shape;have hz2:=hx2.size;obtain⟨hc2,hf2⟩:=hx2.cells;(repeat (first|simp only [World.size_alloc] at hz2 hc2 hf2 g4 g5|simp only [World.size_setCell] at hz2 hc2 hf2 g4 g5));have hy2_0:w.heap.size<w2.heap.size:=oM;have hy2_1:w.heap.size+1<w2.heap.size:=oM;have hy2_2:w.heap.size+1+1<w2.heap.size:=oM))
 refine bodyPost_ret (v:=.agg #[.slice ta0 tn0 tc0,.slice ta1 tn1 tc1,.int .i64 c2,.int .i64 c3,.slice ta4 tn4 tc4,.slice ta5 tn5 tc5,.int .i64 c6,.int .i64 c7,.int .i64 c8,.int .i64 c9,.int .i64 c10,.int .i64 c11]) ?_ rfl ?_
 ·
  simp [results,Tryz.results44,go_sem, *]
 refine⟨_,rfl,?_,_,_,_,_,rfl,ss0,ss1,(g0.keep ?_).mono ?_,(g1.keep ?_).mono ?_,hd,(g4.keep ?_).mono ?_,(g5.keep ?_).mono ?_⟩
 all_goals clear hc1 hf1 hc2 hf2
 ·
  exact xT
 ·
  repeat' (first|(with_reducible exact Chg.refl _ _)|(with_reducible refine Chg.drewN ?_ _)|(with_reducible refine Chg.drew ?_)|(with_reducible refine Chg.alloc ?_ _)|(with_reducible refine Chg.setLow ?_ ?_ _)|(with_reducible refine Chg.ext ?_ (by assumption))|omega)
 ·
  omega
 ·
  repeat' (first|(with_reducible exact Chg.refl _ _)|(with_reducible refine Chg.drewN ?_ _)|(with_reducible refine Chg.drew ?_)|(with_reducible refine Chg.alloc ?_ _)|(with_reducible refine Chg.setLow ?_ ?_ _)|(with_reducible refine Chg.ext ?_ (by assumption))|omega)
 ·
  omega
 ·
  repeat' (first|(with_reducible exact Chg.refl _ _)|(with_reducible refine Chg.drewN ?_ _)|(with_reducible refine Chg.drew ?_)|(with_reducible refine Chg.alloc ?_ _)|(with_reducible refine Chg.setLow ?_ ?_ _)|(with_reducible refine Chg.ext ?_ (by assumption))|omega)
 ·
  omega
 ·
  repeat' (first|(with_reducible exact Chg.refl _ _)|(with_reducible refine Chg.drewN ?_ _)|(with_reducible refine Chg.drew ?_)|(with_reducible refine Chg.alloc ?_ _)|(with_reducible refine Chg.setLow ?_ ?_ _)|(with_reducible refine Chg.ext ?_ (by assumption))|omega)
 omega
theorem to_Store {w:World} {v:Value} {s:DStore} (h:RdStore w v s) (hs0:rowsSize (nestInt64S s.Disk.Kept)≤1048576) (hs1:rowsSize (nestWrite s.Disk.Wait)≤1048576) (hs4:s.State.Pairs.length≤1048576) (hs5:s.State.Jobs.length≤1048576) :
  Calls Tryz.prog 44 #[v] w (Ret w fun v' w'=>∃ F,OwStore w.heap.size w' v' s F):=by
 obtain⟨t0,t1,t4,t5,rfl,h0,h1,h4,h5⟩:=h
 refine (toStore2_c w t0 _ t1 _ _ _ t4 _ _ (length_flPair _) t5 _ _ (length_flJob _) _ _ _ _ _ _ h0 hs0 h1 hs1 h4 hs4 h5 hs5).mono ?_
 rintro e w' ⟨_,rfl,hx,u0,u1,u4,u5,rfl,s0,s1,g0,g1,hd,g4,g5⟩
 exact⟨_,rfl,hx,_,u0,u1,u4,u5,s0,s1,rfl,g0,g1,g4,g5,hd,rfl⟩
end Go.Proofs.YtkpmbocbbgocbaaGreat
namespace Go.G8
noncomputable def storeOk (s:DStore):Bool:=shelfOk s.Disk && (stateOk s.State && (inb s.Num 0 1000000000 && (inb s.Last 0 s.State.Index && ((decide (s.Num=0) == decide (s.Last=0)) && (decide (s.Busy=0) || (decide (s.Num<1000000000) && (decide (s.Last<s.Busy) && decide (s.Busy≤s.State.Index))))))))
theorem stateOk_index {s:DState} (h:stateOk s=true):0≤s.Index∧s.Index≤2000:=by
 simp only [stateOk,Bool.and_eq_true] at h
 exact inb_true.1 h.1
end Go.G8
namespace Go.Proofs.YtkpmbocbbgocbaaGreat
open Go.RowKit Go.G8
theorem sStoreOk_c (w:World) (s0_0:Value) (l0_0:List (List Int)) (s0_1:Value) (l0_1:List DWrite) (c0_2:Int) (c0_3:Int) (s0_4:Value) (l0_4:List DPair) (s0_5:Value) (l0_5:List DJob) (c0_6:Int) (c0_7:Int) (c0_8:Int) (c0_9:Int) (c0_10:Int) (c0_11:Int) (h0_0:Nest 0 w s0_0 (nestInt64S l0_0)) (h0_1:Nest 1 w s0_1 (nestWrite l0_1)) (h0_4:Ints 2 w s0_4 (flPair l0_4)) (h0_5:Ints 5 w s0_5 (flJob l0_5)) :
  Calls Tryz.prog 210 #[.agg #[s0_0,s0_1,.int .i64 c0_2,.int .i64 c0_3,s0_4,s0_5,.int .i64 c0_6,.int .i64 c0_7,.int .i64 c0_8,.int .i64 c0_9,.int .i64 c0_10,.int .i64 c0_11]] w (RetV w (.bool (storeOk (⟨⟨l0_0,l0_1⟩,⟨c0_2,c0_3,l0_4,l0_5,⟨c0_6,c0_7,c0_8⟩⟩,c0_9,c0_10,c0_11⟩:DStore)))):=by
 obtain⟨a0_0,n0_0,k0_0,rfl⟩:=h0_0.shape
 obtain⟨a0_1,n0_1,k0_1,rfl⟩:=h0_1.shape
 obtain⟨a0_4,n0_4,k0_4,rfl⟩:=h0_4.shape
 obtain⟨a0_5,n0_5,k0_5,rfl⟩:=h0_5.shape
 by_cases hl:0≤c0_10∧c0_10≤2000
 obtain⟨hl1,hl2⟩:=hl
 rotate_left
 have hno:stateOk (⟨c0_2,c0_3,l0_4,l0_5,⟨c0_6,c0_7,c0_8⟩⟩:DState)=true→inb c0_10 0 c0_2=false:=fun h=>by
  have:=stateOk_index h
  simp only [] at this
  by_cases h1:inb c0_10 0 c0_2=true
  ·
   have h2:=inb_true.1 h1
   exact (hl ⟨by omega,by omega⟩).elim
  simpa using h1
 clear hl
 all_goals
   have rsize_setRow:=@size_setRow
   have rcell_setRow_lt:=@cell_setRow_lt
   have rcell_setRow_gt:=@cell_setRow_gt
   have rfrozen_setRow_lt:=@frozen_setRow_lt
   have rfrozen_setRow_gt:=@frozen_setRow_gt
   go_enter Tryz.func210,Tryz.ntmps210
   go_wp2_with (first|(go_at_call 315;refine (sShelfOk_c _ _ _ _ _ (by first|(with_reducible exact Nest.ext (by assumption) xT)|(with_reducible exact Nest.ext (OwnNest.nest (by assumption)) xT)) (by first|(with_reducible exact Nest.ext (by assumption) xT)|(with_reducible exact Nest.ext (OwnNest.nest (by assumption)) xT)) ).mono ?_;rintro e wa ⟨rfl,hxa⟩;have hza:=hxa.size;(repeat (first|simp only [World.size_alloc] at hza|simp only [World.size_setCell] at hza|simp only [size_setRow] at hza));(try have hya_b_0:wb.heap.size<wa.heap.size:=oM);(try have hya_b_1:wb.heap.size+1<wa.heap.size:=oM);(try have hya_b_2:wb.heap.size+1+1<wa.heap.size:=oM);(try have hya_c_0:wc.heap.size<wa.heap.size:=oM);(try have hya_c_1:wc.heap.size+1<wa.heap.size:=oM);(try have hya_c_2:wc.heap.size+1+1<wa.heap.size:=oM);have Ka0:Blk wa (w.heap.size) 88 _:=Blk.ext (by exact blkT) hxa;(try simp only [List.setIfInBounds_toArray,List.set_cons_zero,List.set_cons_succ] at Ka0);have CKa0:=Ka0.cell;have FKa0:=Ka0.frozen;have hya__0:w.heap.size<wa.heap.size:=oM;(try (have Ka_b0:Blk wa (wb.heap.size) _ _:=Blk.ext (by exact blkT) hxa;(try simp only [List.setIfInBounds_toArray,List.set_cons_zero,List.set_cons_succ] at Ka_b0);have CKa_b0:=Ka_b0.cell;have FKa_b0:=Ka_b0.frozen));(try (have Ka_b1:Blk wa (wb.heap.size+1) _ _:=Blk.ext (by exact blkT) hxa;(try simp only [List.setIfInBounds_toArray,List.set_cons_zero,List.set_cons_succ] at Ka_b1);have CKa_b1:=Ka_b1.cell;have FKa_b1:=Ka_b1.frozen));(try (have Ka_b2:Blk wa (wb.heap.size+1+1) _ _:=Blk.ext (by exact blkT) hxa;(try simp only [List.setIfInBounds_toArray,List.set_cons_zero,List.set_cons_succ] at Ka_b2);have CKa_b2:=Ka_b2.cell;have FKa_b2:=Ka_b2.frozen));(try (have Ka_c0:Blk wa (wc.heap.size) _ _:=Blk.ext (by exact blkT) hxa;(try simp only [List.setIfInBounds_toArray,List.set_cons_zero,List.set_cons_succ] at Ka_c0);have CKa_c0:=Ka_c0.cell;have FKa_c0:=Ka_c0.frozen));(try (have Ka_c1:Blk wa (wc.heap.size+1) _ _:=Blk.ext (by exact blkT) hxa;(try simp only [List.setIfInBounds_toArray,List.set_cons_zero,List.set_cons_succ] at Ka_c1);have CKa_c1:=Ka_c1.cell;have FKa_c1:=Ka_c1.frozen));(try (have Ka_c2:Blk wa (wc.heap.size+1+1) _ _:=Blk.ext (by exact blkT) hxa;(try simp only [List.setIfInBounds_toArray,List.set_cons_zero,List.set_cons_succ] at Ka_c2);have CKa_c2:=Ka_c2.cell;have FKa_c2:=Ka_c2.frozen)))|(go_at_call 316;refine (sStateOk_c _ _ _ _ _ _ _ _ _ _ (by first|(with_reducible exact Ints.ext (by assumption) xT)|(with_reducible exact Ints.ext (OwnI.ints (by assumption)) xT)|with_reducible exact rnil_flPair _ _) (by first|(with_reducible exact Ints.ext (by assumption) xT)|(with_reducible exact Ints.ext (OwnI.ints (by assumption)) xT)|with_reducible exact rnil_flJob _ _) ).mono ?_;rintro e wb ⟨rfl,hxb⟩;have hzb:=hxb.size;(repeat (first|simp only [World.size_alloc] at hzb|simp only [World.size_setCell] at hzb|simp only [size_setRow] at hzb));(try have hyb_a_0:wa.heap.size<wb.heap.size:=oM);(try have hyb_a_1:wa.heap.size+1<wb.heap.size:=oM);(try have hyb_a_2:wa.heap.size+1+1<wb.heap.size:=oM);(try have hyb_c_0:wc.heap.size<wb.heap.size:=oM);(try have hyb_c_1:wc.heap.size+1<wb.heap.size:=oM);(try have hyb_c_2:wc.heap.size+1+1<wb.heap.size:=oM);have Kb0:Blk wb (w.heap.size) 88 _:=Blk.ext (by exact blkT) hxb;(try simp only [List.setIfInBounds_toArray,List.set_cons_zero,List.set_cons_succ] at Kb0);have CKb0:=Kb0.cell;have FKb0:=Kb0.frozen;have hyb__0:w.heap.size<wb.heap.size:=oM;(try (have Kb_a0:Blk wb (wa.heap.size) _ _:=Blk.ext (by exact blkT) hxb;(try simp only [List.setIfInBounds_toArray,List.set_cons_zero,List.set_cons_succ] at Kb_a0);have CKb_a0:=Kb_a0.cell;have FKb_a0:=Kb_a0.frozen));(try (have Kb_a1:Blk wb (wa.heap.size+1) _ _:=Blk.ext (by exact blkT) hxb;(try simp only [List.setIfInBounds_toArray,List.set_cons_zero,List.set_cons_succ] at Kb_a1);have CKb_a1:=Kb_a1.cell;have FKb_a1:=Kb_a1.frozen));(try (have Kb_a2:Blk wb (wa.heap.size+1+1) _ _:=Blk.ext (by exact blkT) hxb;(try simp only [List.setIfInBounds_toArray,List.set_cons_zero,List.set_cons_succ] at Kb_a2);have CKb_a2:=Kb_a2.cell;have FKb_a2:=Kb_a2.frozen));(try (have Kb_c0:Blk wb (wc.heap.size) _ _:=Blk.ext (by exact blkT) hxb;(try simp only [List.setIfInBounds_toArray,List.set_cons_zero,List.set_cons_succ] at Kb_c0);have CKb_c0:=Kb_c0.cell;have FKb_c0:=Kb_c0.frozen));(try (have Kb_c1:Blk wb (wc.heap.size+1) _ _:=Blk.ext (by exact blkT) hxb;(try simp only [List.setIfInBounds_toArray,List.set_cons_zero,List.set_cons_succ] at Kb_c1);have CKb_c1:=Kb_c1.cell;have FKb_c1:=Kb_c1.frozen));(try (have Kb_c2:Blk wb (wc.heap.size+1+1) _ _:=Blk.ext (by exact blkT) hxb;(try simp only [List.setIfInBounds_toArray,List.set_cons_zero,List.set_cons_succ] at Kb_c2);have CKb_c2:=Kb_c2.cell;have FKb_c2:=Kb_c2.frozen)))|(go_at_call 303;refine (l1In_c _ _ _ _  ).mono ?_;rintro e wc ⟨rfl,rfl⟩))
   all_goals
    go_ret
    refine⟨by first|rfl|(simp [storeOk,inb,Int.add_one_le_iff, *];done)|(simp [storeOk,inb,Int.add_one_le_iff, *];omega)|(simp_all [storeOk,inb,Int.add_one_le_iff,bq,bn];done)|(simp_all [storeOk,inb,Int.add_one_le_iff,bq,bn];omega),?_⟩
    exact xT
theorem storeOk_c (w:World) (s0_0:Value) (l0_0:List (List Int)) (s0_1:Value) (l0_1:List DWrite) (c0_2:Int) (c0_3:Int) (s0_4:Value) (l0_4:List DPair) (s0_5:Value) (l0_5:List DJob) (c0_6:Int) (c0_7:Int) (c0_8:Int) (c0_9:Int) (c0_10:Int) (c0_11:Int) (h0_0:Nest 0 w s0_0 (nestInt64S l0_0)) (h0_1:Nest 1 w s0_1 (nestWrite l0_1)) (h0_4:Ints 2 w s0_4 (flPair l0_4)) (h0_5:Ints 5 w s0_5 (flJob l0_5)) :
  Calls Tryz.prog 185 #[.agg #[s0_0,s0_1,.int .i64 c0_2,.int .i64 c0_3,s0_4,s0_5,.int .i64 c0_6,.int .i64 c0_7,.int .i64 c0_8,.int .i64 c0_9,.int .i64 c0_10,.int .i64 c0_11]] w (RetV w (.bool (storeOk (⟨⟨l0_0,l0_1⟩,⟨c0_2,c0_3,l0_4,l0_5,⟨c0_6,c0_7,c0_8⟩⟩,c0_9,c0_10,c0_11⟩:DStore)))):=by
 obtain⟨a0_0,n0_0,k0_0,rfl⟩:=h0_0.shape
 obtain⟨a0_1,n0_1,k0_1,rfl⟩:=h0_1.shape
 obtain⟨a0_4,n0_4,k0_4,rfl⟩:=h0_4.shape
 obtain⟨a0_5,n0_5,k0_5,rfl⟩:=h0_5.shape
 by_cases hl:0≤c0_10∧c0_10≤2000
 obtain⟨hl1,hl2⟩:=hl
 rotate_left
 have hno:stateOk (⟨c0_2,c0_3,l0_4,l0_5,⟨c0_6,c0_7,c0_8⟩⟩:DState)=true→inb c0_10 0 c0_2=false:=fun h=>by
  have:=stateOk_index h
  simp only [] at this
  by_cases h1:inb c0_10 0 c0_2=true
  ·
   have h2:=inb_true.1 h1
   exact (hl ⟨by omega,by omega⟩).elim
  simpa using h1
 clear hl
 all_goals
   have rsize_setRow:=@size_setRow
   have rcell_setRow_lt:=@cell_setRow_lt
   have rcell_setRow_gt:=@cell_setRow_gt
   have rfrozen_setRow_lt:=@frozen_setRow_lt
   have rfrozen_setRow_gt:=@frozen_setRow_gt
   go_enter Tryz.func185,Tryz.ntmps185
   go_wp2_with (first|(go_at_call 291;refine (shelfOk_c _ _ _ _ _ (by first|(with_reducible exact Nest.ext (by assumption) xT)|(with_reducible exact Nest.ext (OwnNest.nest (by assumption)) xT)) (by first|(with_reducible exact Nest.ext (by assumption) xT)|(with_reducible exact Nest.ext (OwnNest.nest (by assumption)) xT)) ).mono ?_;rintro e wa ⟨rfl,hxa⟩;have hza:=hxa.size;(repeat (first|simp only [World.size_alloc] at hza|simp only [World.size_setCell] at hza|simp only [size_setRow] at hza));(try have hya_b_0:wb.heap.size<wa.heap.size:=oM);(try have hya_b_1:wb.heap.size+1<wa.heap.size:=oM);(try have hya_b_2:wb.heap.size+1+1<wa.heap.size:=oM);(try have hya_c_0:wc.heap.size<wa.heap.size:=oM);(try have hya_c_1:wc.heap.size+1<wa.heap.size:=oM);(try have hya_c_2:wc.heap.size+1+1<wa.heap.size:=oM);have Ka0:Blk wa (w.heap.size) 88 _:=Blk.ext (by exact blkT) hxa;(try simp only [List.setIfInBounds_toArray,List.set_cons_zero,List.set_cons_succ] at Ka0);have CKa0:=Ka0.cell;have FKa0:=Ka0.frozen;have hya__0:w.heap.size<wa.heap.size:=oM;(try (have Ka_b0:Blk wa (wb.heap.size) _ _:=Blk.ext (by exact blkT) hxa;(try simp only [List.setIfInBounds_toArray,List.set_cons_zero,List.set_cons_succ] at Ka_b0);have CKa_b0:=Ka_b0.cell;have FKa_b0:=Ka_b0.frozen));(try (have Ka_b1:Blk wa (wb.heap.size+1) _ _:=Blk.ext (by exact blkT) hxa;(try simp only [List.setIfInBounds_toArray,List.set_cons_zero,List.set_cons_succ] at Ka_b1);have CKa_b1:=Ka_b1.cell;have FKa_b1:=Ka_b1.frozen));(try (have Ka_b2:Blk wa (wb.heap.size+1+1) _ _:=Blk.ext (by exact blkT) hxa;(try simp only [List.setIfInBounds_toArray,List.set_cons_zero,List.set_cons_succ] at Ka_b2);have CKa_b2:=Ka_b2.cell;have FKa_b2:=Ka_b2.frozen));(try (have Ka_c0:Blk wa (wc.heap.size) _ _:=Blk.ext (by exact blkT) hxa;(try simp only [List.setIfInBounds_toArray,List.set_cons_zero,List.set_cons_succ] at Ka_c0);have CKa_c0:=Ka_c0.cell;have FKa_c0:=Ka_c0.frozen));(try (have Ka_c1:Blk wa (wc.heap.size+1) _ _:=Blk.ext (by exact blkT) hxa;(try simp only [List.setIfInBounds_toArray,List.set_cons_zero,List.set_cons_succ] at Ka_c1);have CKa_c1:=Ka_c1.cell;have FKa_c1:=Ka_c1.frozen));(try (have Ka_c2:Blk wa (wc.heap.size+1+1) _ _:=Blk.ext (by exact blkT) hxa;(try simp only [List.setIfInBounds_toArray,List.set_cons_zero,List.set_cons_succ] at Ka_c2);have CKa_c2:=Ka_c2.cell;have FKa_c2:=Ka_c2.frozen)))|(go_at_call 242;refine (stateOk_c _ _ _ _ _ _ _ _ _ _ (by first|(with_reducible exact Ints.ext (by assumption) xT)|(with_reducible exact Ints.ext (OwnI.ints (by assumption)) xT)|with_reducible exact rnil_flPair _ _) (by first|(with_reducible exact Ints.ext (by assumption) xT)|(with_reducible exact Ints.ext (OwnI.ints (by assumption)) xT)|with_reducible exact rnil_flJob _ _) ).mono ?_;rintro e wb ⟨rfl,hxb⟩;have hzb:=hxb.size;(repeat (first|simp only [World.size_alloc] at hzb|simp only [World.size_setCell] at hzb|simp only [size_setRow] at hzb));(try have hyb_a_0:wa.heap.size<wb.heap.size:=oM);(try have hyb_a_1:wa.heap.size+1<wb.heap.size:=oM);(try have hyb_a_2:wa.heap.size+1+1<wb.heap.size:=oM);(try have hyb_c_0:wc.heap.size<wb.heap.size:=oM);(try have hyb_c_1:wc.heap.size+1<wb.heap.size:=oM);(try have hyb_c_2:wc.heap.size+1+1<wb.heap.size:=oM);have Kb0:Blk wb (w.heap.size) 88 _:=Blk.ext (by exact blkT) hxb;(try simp only [List.setIfInBounds_toArray,List.set_cons_zero,List.set_cons_succ] at Kb0);have CKb0:=Kb0.cell;have FKb0:=Kb0.frozen;have hyb__0:w.heap.size<wb.heap.size:=oM;(try (have Kb_a0:Blk wb (wa.heap.size) _ _:=Blk.ext (by exact blkT) hxb;(try simp only [List.setIfInBounds_toArray,List.set_cons_zero,List.set_cons_succ] at Kb_a0);have CKb_a0:=Kb_a0.cell;have FKb_a0:=Kb_a0.frozen));(try (have Kb_a1:Blk wb (wa.heap.size+1) _ _:=Blk.ext (by exact blkT) hxb;(try simp only [List.setIfInBounds_toArray,List.set_cons_zero,List.set_cons_succ] at Kb_a1);have CKb_a1:=Kb_a1.cell;have FKb_a1:=Kb_a1.frozen));(try (have Kb_a2:Blk wb (wa.heap.size+1+1) _ _:=Blk.ext (by exact blkT) hxb;(try simp only [List.setIfInBounds_toArray,List.set_cons_zero,List.set_cons_succ] at Kb_a2);have CKb_a2:=Kb_a2.cell;have FKb_a2:=Kb_a2.frozen));(try (have Kb_c0:Blk wb (wc.heap.size) _ _:=Blk.ext (by exact blkT) hxb;(try simp only [List.setIfInBounds_toArray,List.set_cons_zero,List.set_cons_succ] at Kb_c0);have CKb_c0:=Kb_c0.cell;have FKb_c0:=Kb_c0.frozen));(try (have Kb_c1:Blk wb (wc.heap.size+1) _ _:=Blk.ext (by exact blkT) hxb;(try simp only [List.setIfInBounds_toArray,List.set_cons_zero,List.set_cons_succ] at Kb_c1);have CKb_c1:=Kb_c1.cell;have FKb_c1:=Kb_c1.frozen));(try (have Kb_c2:Blk wb (wc.heap.size+1+1) _ _:=Blk.ext (by exact blkT) hxb;(try simp only [List.setIfInBounds_toArray,List.set_cons_zero,List.set_cons_succ] at Kb_c2);have CKb_c2:=Kb_c2.cell;have FKb_c2:=Kb_c2.frozen)))|(go_at_call 176;refine (between_c _ _ _ _  ).mono ?_;rintro e wc ⟨rfl,rfl⟩))
   all_goals
    go_ret
    refine⟨by first|rfl|(simp [storeOk,inb, *];done)|(simp [storeOk,inb, *];omega)|(simp_all [storeOk,inb,bq,bn];done)|(simp_all [storeOk,inb,bq,bn];omega),?_⟩
    exact xT
section
variable {B:Nat} {w:World}
theorem OwStore.nil (B:Nat) (w:World):OwStore B w (.agg #[.slice none 0 0,.slice none 0 0,.int .i64 0,.int .i64 0,.slice none 0 0,.slice none 0 0,.int .i64 0,.int .i64 0,.int .i64 0,.int .i64 0,.int .i64 0,.int .i64 0]) ⟨⟨[],[]⟩,⟨0,0,[],[],⟨0,0,0⟩⟩,0,0,0⟩ [] :=
 ⟨_,_,_,_,[],[],rfl,OwnNs.nil _ _ _ _ _,OwnNs.nil _ _ _ _ _,OwnI.nil _ _ _ _,OwnI.nil _ _ _ _,by simp [feet,Value.ownBlock],by simp [feet,Value.ownBlock]⟩
theorem IsDisk.store {a b:Value} {d:DDisk} (h:IsDisk B w (.agg #[a,b]) d):∃ F,OwStore B w (.agg #[a,b,.int .i64 0,.int .i64 0,.slice none 0 0,.slice none 0 0,.int .i64 0,.int .i64 0,.int .i64 0,.int .i64 0,.int .i64 0,.int .i64 0]) ⟨d,⟨0,0,[],[],⟨0,0,0⟩⟩,0,0,0⟩ F:=by
 obtain⟨t0,t1,ss0,ss1,e,h0,h1,hd⟩:=h
 injection e with e;injection e with e;injection e with e1 e;injection e with e2 _
 subst e1;subst e2
 exact⟨_,_,_,_,_,ss0,ss1,rfl,h0,h1,OwnI.nil _ _ _ _,OwnI.nil _ _ _ _,hd,rfl⟩
end
theorem sStoreOk_k {w:World} {v:Value} {s:DStore} (h:RdStore w v s):Calls Tryz.prog 210 #[v] w (RetV w (.bool (storeOk s))):=by
 obtain⟨t0,t1,t4,t5,rfl,h0,h1,h4,h5⟩:=h
 exact sStoreOk_c w t0 s.Disk.Kept t1 s.Disk.Wait s.State.Index s.State.Time t4 s.State.Pairs t5 s.State.Jobs s.State.Lease.Holder s.State.Lease.Epoch s.State.Lease.Until s.Num s.Last s.Busy h0 h1 h4 h5
theorem storeOk_k {w:World} {v:Value} {s:DStore} (h:RdStore w v s):Calls Tryz.prog 185 #[v] w (RetV w (.bool (storeOk s))):=by
 obtain⟨t0,t1,t4,t5,rfl,h0,h1,h4,h5⟩:=h
 exact storeOk_c w t0 s.Disk.Kept t1 s.Disk.Wait s.State.Index s.State.Time t4 s.State.Pairs t5 s.State.Jobs s.State.Lease.Holder s.State.Lease.Epoch s.State.Lease.Until s.Num s.Last s.Busy h0 h1 h4 h5
end Go.Proofs.YtkpmbocbbgocbaaGreat
