/- States, shots and rows as one thing: read, owned, marked. -/
import Derived.Test.YtemhbbpbmgpcaaaHelpG
import Derived.Test.YtemhbbpbmgpcaaaKA
import Derived.Test.YtemhbbpbmgpcaaaS1
set_option linter.unusedSimpArgs false
set_option linter.unusedVariables false
namespace Go.Proofs.Ytemhbbpbmgpcaaa
open Go.RowKit Go.G8

def RdState (w : World) (v : Value) (s : DState) : Prop := ∃ t2 t3 : Value, v = .agg #[.int .i64 s.Index, .int .i64 s.Time, t2, t3, .int .i64 s.Lease.Holder, .int .i64 s.Lease.Epoch, .int .i64 s.Lease.Until] ∧ Ints 2 w t2 (flPair s.Pairs) ∧ Ints 5 w t3 (flJob s.Jobs)
def OwState (B : Nat) (w : World) (v : Value) (s : DState) (F : List Nat) : Prop := ∃ t2 t3 : Value, v = .agg #[.int .i64 s.Index, .int .i64 s.Time, t2, t3, .int .i64 s.Lease.Holder, .int .i64 s.Lease.Epoch, .int .i64 s.Lease.Until] ∧ OwnI B 106 2 w t2 (flPair s.Pairs) ∧ OwnI B 104 5 w t3 (flJob s.Jobs) ∧ F = feet [t2] ++ feet [t3]
def numState (s : DState) : Nat := s.Pairs.length * 2 + s.Jobs.length * 5
def MkState (B : Nat) (w : World) (v : Value) (s : DState) (F : List Nat) (q : Int) : Prop := ∃ t2 t3 : Value, v = .agg #[.int .i64 s.Index, .int .i64 s.Time, t2, t3, .int .i64 s.Lease.Holder, .int .i64 s.Lease.Epoch, .int .i64 s.Lease.Until] ∧ OwnI B 106 2 w t2 (run q (s.Pairs.length * 2)) ∧ OwnI B 104 5 w t3 (run (q + (s.Pairs.length * 2 : Nat)) (s.Jobs.length * 5)) ∧ F = feet [t2] ++ feet [t3]
section
variable {B B' : Nat} {w w' : World} {v : Value} {s s' : DState} {F : List Nat} {q : Int}
theorem IsState.keep (h : IsState B w v s) (x : Chg B w w') : IsState B w' v s := let ⟨t2, t3, e, h2, h3⟩ := h; ⟨t2, t3, e, h2.keep x, h3.keep x⟩
theorem IsState.mono (h : IsState B w v s) (x : B' ≤ B) : IsState B' w v s := let ⟨t2, t3, e, h2, h3⟩ := h; ⟨t2, t3, e, h2.mono x, h3.mono x⟩
theorem IsState.ext (h : IsState B w v s) (x : Ext w w') : IsState B w' v s := let ⟨t2, t3, e, h2, h3⟩ := h; ⟨t2, t3, e, Own.ext h2 x, Own.ext h3 x⟩
theorem IsState.ow (h : IsState B w v s) : ∃ F, OwState B w v s F := let ⟨t2, t3, e, h2, h3⟩ := h; ⟨_, t2, t3, e, h2, h3, rfl⟩
theorem IsState.rd (h : IsState B w v s) : RdState w v s := let ⟨t2, t3, e, h2, h3⟩ := h; ⟨t2, t3, e, h2.ints, h3.ints⟩
theorem RdState.shape (h : RdState w v s) : ∃ a2 n2 k2 a3 n3 k3, v = .agg #[.int .i64 s.Index, .int .i64 s.Time, .slice a2 n2 k2, .slice a3 n3 k3, .int .i64 s.Lease.Holder, .int .i64 s.Lease.Epoch, .int .i64 s.Lease.Until] := by
  obtain ⟨t2, t3, rfl, h2, h3⟩ := h
  obtain ⟨a2, n2, k2, rfl⟩ := h2.shape
  obtain ⟨a3, n3, k3, rfl⟩ := h3.shape
  exact ⟨a2, n2, k2, a3, n3, k3, rfl⟩
theorem RdState.ext (h : RdState w v s) (x : Ext w w') : RdState w' v s := let ⟨t2, t3, e, h2, h3⟩ := h; ⟨t2, t3, e, h2.ext x, h3.ext x⟩
theorem OwState.rd (h : OwState B w v s F) : RdState w v s := let ⟨t2, t3, e, h2, h3, _⟩ := h; ⟨t2, t3, e, h2.ints, h3.ints⟩
theorem OwState.is (h : OwState B w v s F) : IsState B w v s := let ⟨t2, t3, e, h2, h3, _⟩ := h; ⟨t2, t3, e, h2, h3⟩
theorem OwState.ext (h : OwState B w v s F) (x : Ext w w') : OwState B w' v s F := let ⟨t2, t3, e, h2, h3, hF⟩ := h; ⟨t2, t3, e, Own.ext h2 x, Own.ext h3 x, hF⟩
theorem OwState.keep (h : OwState B w v s F) (x : Chg B w w') : OwState B w' v s F := let ⟨t2, t3, e, h2, h3, hF⟩ := h; ⟨t2, t3, e, h2.keep x, h3.keep x, hF⟩
theorem OwState.mono (h : OwState B w v s F) (x : B' ≤ B) : OwState B' w v s F := let ⟨t2, t3, e, h2, h3, hF⟩ := h; ⟨t2, t3, e, h2.mono x, h3.mono x, hF⟩
theorem OwState.upd (h : OwState B w v s F) {fs : List Nat} (x : Upd w w' fs) (hn : ∀ k, k ∈ F → k ∈ fs → False) : OwState B w' v s F := by
  obtain ⟨t2, t3, e, h2, h3, rfl⟩ := h
  exact ⟨t2, t3, e, OwnI.upd' h2 x (fun k h => hn k (List.mem_append_left _ h)), OwnI.upd' h3 x (fun k h => hn k (List.mem_append_right _ h)), rfl⟩
theorem OwState.low (h : OwState B w v s F) : ∀ k, k ∈ F → B ≤ k ∧ k < w.heap.size := by
  obtain ⟨t2, t3, e, h2, h3, rfl⟩ := h
  intro k hk
  rcases List.mem_append.1 hk with h | h
  · exact h2.foot k h
  · exact h3.foot k h
theorem MkState.ext (h : MkState B w v s F q) (x : Ext w w') : MkState B w' v s F q := let ⟨t2, t3, e, h2, h3, hF⟩ := h; ⟨t2, t3, e, Own.ext h2 x, Own.ext h3 x, hF⟩
theorem numState_le (q2 : s.Pairs.length ≤ 1048576) (q3 : s.Jobs.length ≤ 1048576) : numState s ≤ 100000000 := by unfold numState; omega
theorem to_State (h : RdState w v s) (q2 : s.Pairs.length ≤ 1048576) (q3 : s.Jobs.length ≤ 1048576) :
    Calls Try.prog 23 #[v] w (Ret w fun v' w' => ∃ F, OwState w.heap.size w' v' s F) := by
  obtain ⟨t2, t3, rfl, h2, h3⟩ := h
  refine (toState_c w s.Index s.Time t2 _ _ (length_flPair _) t3 _ _ (length_flJob _) _ _ _ h2 q2 h3 q3).mono ?_
  rintro e w' ⟨_, rfl, hx, u2, u3, rfl, g2, g3⟩
  exact ⟨_, rfl, hx, _, u2, u3, rfl, g2, g3, rfl⟩
theorem sz_State (h : RdState w v s) {left : Int} (h0 : 0 ≤ left) (h1 : left ≤ 1048576) :
    Calls Try.prog 19 #[v, .int .i64 left] w (Ret w fun v' _ => SzR left (s.Pairs.length + s.Jobs.length) v') := by
  obtain ⟨t2, t3, rfl, h2, h3⟩ := h
  exact szState_c w s.Index s.Time t2 _ _ (length_flPair _) t3 _ _ (length_flJob _) _ _ _ _ h2 h3 h0 h1
theorem eq_State {u : Value} (h : RdState w v s) (k : RdState w u s) : Calls Try.prog 29 #[v, u] w (RetV w (.bool true)) := by
  obtain ⟨t2, t3, rfl, h2, h3⟩ := h
  obtain ⟨u2, u3, rfl, k2, k3⟩ := k
  exact eqState_c w s.Index s.Time t2 u2 _ t3 u3 _ _ _ _ h2 k2 h3 k3
theorem mark_State (h : OwState B w v s F) (hq0 : 0 ≤ q) (hq1 : q + (numState s : Nat) ≤ 4611686018427387904) :
    Calls Try.prog 30 #[v, .int .i64 q] w (RetM w F (.int .i64 (q + (numState s : Nat))) fun w' => MkState B w' v s F q) := by
  obtain ⟨t2, t3, rfl, h2, h3, rfl⟩ := h
  unfold numState at hq1 ⊢
  refine (markState_c w B s.Index s.Time t2 _ _ (length_flPair _) t3 _ _ (length_flJob _) _ _ _ q h2 h3 (i_apart h2 h3 (by decide)) hq0 (by omega)).mono ?_
  rintro e w' ⟨rfl, hx, g2, g3⟩
  exact ⟨congrArg (fun z : Int => Ending.returned (Value.int .i64 z)) (by omega), hx, t2, t3, rfl, g2, g3, rfl⟩
theorem held_State (h : MkState B w v s F q) (hq0 : 0 ≤ q) (hq1 : q + (numState s : Nat) ≤ 4611686018427387904) :
    Calls Try.prog 41 #[v, .int .i64 q] w (RetV w (.int .i64 (q + (numState s : Nat)))) := by
  obtain ⟨t2, t3, rfl, h2, h3, rfl⟩ := h
  unfold numState at hq1 ⊢
  refine (heldState_c w s.Index s.Time t2 _ t3 _ _ _ _ q h2.ints h3.ints hq0 (by omega)).mono ?_
  rintro e w' ⟨rfl, hx⟩
  exact ⟨congrArg (fun z : Int => Ending.returned (Value.int .i64 z)) (by omega), hx⟩
end
def RdShot (w : World) (v : Value) (s : DShot) : Prop := ∃ t2 t3 : Value, v = .agg #[.int .i64 s.Num, .int .i64 s.State.Index, .int .i64 s.State.Time, t2, t3, .int .i64 s.State.Lease.Holder, .int .i64 s.State.Lease.Epoch, .int .i64 s.State.Lease.Until] ∧ Ints 2 w t2 (flPair s.State.Pairs) ∧ Ints 5 w t3 (flJob s.State.Jobs)
def OwShot (B : Nat) (w : World) (v : Value) (s : DShot) (F : List Nat) : Prop := ∃ t2 t3 : Value, v = .agg #[.int .i64 s.Num, .int .i64 s.State.Index, .int .i64 s.State.Time, t2, t3, .int .i64 s.State.Lease.Holder, .int .i64 s.State.Lease.Epoch, .int .i64 s.State.Lease.Until] ∧ OwnI B 106 2 w t2 (flPair s.State.Pairs) ∧ OwnI B 104 5 w t3 (flJob s.State.Jobs) ∧ F = feet [t2] ++ feet [t3]
def numShot (s : DShot) : Nat := s.State.Pairs.length * 2 + s.State.Jobs.length * 5
def MkShot (B : Nat) (w : World) (v : Value) (s : DShot) (F : List Nat) (q : Int) : Prop := ∃ t2 t3 : Value, v = .agg #[.int .i64 s.Num, .int .i64 s.State.Index, .int .i64 s.State.Time, t2, t3, .int .i64 s.State.Lease.Holder, .int .i64 s.State.Lease.Epoch, .int .i64 s.State.Lease.Until] ∧ OwnI B 106 2 w t2 (run q (s.State.Pairs.length * 2)) ∧ OwnI B 104 5 w t3 (run (q + (s.State.Pairs.length * 2 : Nat)) (s.State.Jobs.length * 5)) ∧ F = feet [t2] ++ feet [t3]
section
variable {B B' : Nat} {w w' : World} {v : Value} {s s' : DShot} {F : List Nat} {q : Int}
theorem IsShot.keep (h : IsShot B w v s) (x : Chg B w w') : IsShot B w' v s := let ⟨t2, t3, e, h2, h3⟩ := h; ⟨t2, t3, e, h2.keep x, h3.keep x⟩
theorem IsShot.mono (h : IsShot B w v s) (x : B' ≤ B) : IsShot B' w v s := let ⟨t2, t3, e, h2, h3⟩ := h; ⟨t2, t3, e, h2.mono x, h3.mono x⟩
theorem IsShot.ext (h : IsShot B w v s) (x : Ext w w') : IsShot B w' v s := let ⟨t2, t3, e, h2, h3⟩ := h; ⟨t2, t3, e, Own.ext h2 x, Own.ext h3 x⟩
theorem IsShot.ow (h : IsShot B w v s) : ∃ F, OwShot B w v s F := let ⟨t2, t3, e, h2, h3⟩ := h; ⟨_, t2, t3, e, h2, h3, rfl⟩
theorem IsShot.rd (h : IsShot B w v s) : RdShot w v s := let ⟨t2, t3, e, h2, h3⟩ := h; ⟨t2, t3, e, h2.ints, h3.ints⟩
theorem RdShot.shape (h : RdShot w v s) : ∃ a2 n2 k2 a3 n3 k3, v = .agg #[.int .i64 s.Num, .int .i64 s.State.Index, .int .i64 s.State.Time, .slice a2 n2 k2, .slice a3 n3 k3, .int .i64 s.State.Lease.Holder, .int .i64 s.State.Lease.Epoch, .int .i64 s.State.Lease.Until] := by
  obtain ⟨t2, t3, rfl, h2, h3⟩ := h
  obtain ⟨a2, n2, k2, rfl⟩ := h2.shape
  obtain ⟨a3, n3, k3, rfl⟩ := h3.shape
  exact ⟨a2, n2, k2, a3, n3, k3, rfl⟩
theorem RdShot.ext (h : RdShot w v s) (x : Ext w w') : RdShot w' v s := let ⟨t2, t3, e, h2, h3⟩ := h; ⟨t2, t3, e, h2.ext x, h3.ext x⟩
theorem OwShot.rd (h : OwShot B w v s F) : RdShot w v s := let ⟨t2, t3, e, h2, h3, _⟩ := h; ⟨t2, t3, e, h2.ints, h3.ints⟩
theorem OwShot.is (h : OwShot B w v s F) : IsShot B w v s := let ⟨t2, t3, e, h2, h3, _⟩ := h; ⟨t2, t3, e, h2, h3⟩
theorem OwShot.ext (h : OwShot B w v s F) (x : Ext w w') : OwShot B w' v s F := let ⟨t2, t3, e, h2, h3, hF⟩ := h; ⟨t2, t3, e, Own.ext h2 x, Own.ext h3 x, hF⟩
theorem OwShot.keep (h : OwShot B w v s F) (x : Chg B w w') : OwShot B w' v s F := let ⟨t2, t3, e, h2, h3, hF⟩ := h; ⟨t2, t3, e, h2.keep x, h3.keep x, hF⟩
theorem OwShot.mono (h : OwShot B w v s F) (x : B' ≤ B) : OwShot B' w v s F := let ⟨t2, t3, e, h2, h3, hF⟩ := h; ⟨t2, t3, e, h2.mono x, h3.mono x, hF⟩
theorem OwShot.upd (h : OwShot B w v s F) {fs : List Nat} (x : Upd w w' fs) (hn : ∀ k, k ∈ F → k ∈ fs → False) : OwShot B w' v s F := by
  obtain ⟨t2, t3, e, h2, h3, rfl⟩ := h
  exact ⟨t2, t3, e, OwnI.upd' h2 x (fun k h => hn k (List.mem_append_left _ h)), OwnI.upd' h3 x (fun k h => hn k (List.mem_append_right _ h)), rfl⟩
theorem OwShot.low (h : OwShot B w v s F) : ∀ k, k ∈ F → B ≤ k ∧ k < w.heap.size := by
  obtain ⟨t2, t3, e, h2, h3, rfl⟩ := h
  intro k hk
  rcases List.mem_append.1 hk with h | h
  · exact h2.foot k h
  · exact h3.foot k h
theorem MkShot.ext (h : MkShot B w v s F q) (x : Ext w w') : MkShot B w' v s F q := let ⟨t2, t3, e, h2, h3, hF⟩ := h; ⟨t2, t3, e, Own.ext h2 x, Own.ext h3 x, hF⟩
theorem numShot_le (q2 : s.State.Pairs.length ≤ 1048576) (q3 : s.State.Jobs.length ≤ 1048576) : numShot s ≤ 100000000 := by unfold numShot; omega
theorem to_Shot (h : RdShot w v s) (q2 : s.State.Pairs.length ≤ 1048576) (q3 : s.State.Jobs.length ≤ 1048576) :
    Calls Try.prog 7 #[v] w (Ret w fun v' w' => ∃ F, OwShot w.heap.size w' v' s F) := by
  obtain ⟨t2, t3, rfl, h2, h3⟩ := h
  refine (toShot_c w s.Num s.State.Index s.State.Time t2 _ _ (length_flPair _) t3 _ _ (length_flJob _) _ _ _ h2 q2 h3 q3).mono ?_
  rintro e w' ⟨_, rfl, hx, u2, u3, rfl, g2, g3⟩
  exact ⟨_, rfl, hx, _, u2, u3, rfl, g2, g3, rfl⟩
theorem sz_Shot (h : RdShot w v s) {left : Int} (h0 : 0 ≤ left) (h1 : left ≤ 1048576) :
    Calls Try.prog 5 #[v, .int .i64 left] w (Ret w fun v' _ => SzR left (s.State.Pairs.length + s.State.Jobs.length) v') := by
  obtain ⟨t2, t3, rfl, h2, h3⟩ := h
  exact szShot_c w s.Num s.State.Index s.State.Time t2 _ _ (length_flPair _) t3 _ _ (length_flJob _) _ _ _ _ h2 h3 h0 h1
theorem eq_Shot {u : Value} (h : RdShot w v s) (k : RdShot w u s) : Calls Try.prog 10 #[v, u] w (RetV w (.bool true)) := by
  obtain ⟨t2, t3, rfl, h2, h3⟩ := h
  obtain ⟨u2, u3, rfl, k2, k3⟩ := k
  exact eqShot_c w s.Num s.State.Index s.State.Time t2 u2 _ t3 u3 _ _ _ _ h2 k2 h3 k3
set_option maxHeartbeats 1600000 in
set_option maxRecDepth 100000 in
theorem mark_Shot (h : OwShot B w v s F) (hq0 : 0 ≤ q) (hq1 : q + (numShot s : Nat) ≤ 4611686018427387904) :
    Calls Try.prog 11 #[v, .int .i64 q] w (RetM w F (.int .i64 (q + (numShot s : Nat))) fun w' => MkShot B w' v s F q) := by
  obtain ⟨t2, t3, rfl, h2, h3, rfl⟩ := h
  obtain ⟨a2, n2, k2, rfl⟩ := h2.shape
  obtain ⟨a3, n3, k3, rfl⟩ := h3.shape
  have H : OwState B w (.agg #[.int .i64 s.State.Index, .int .i64 s.State.Time, .slice a2 n2 k2, .slice a3 n3 k3, .int .i64 s.State.Lease.Holder, .int .i64 s.State.Lease.Epoch, .int .i64 s.State.Lease.Until]) s.State (feet [.slice a2 n2 k2] ++ feet [.slice a3 n3 k3]) := ⟨_, _, rfl, h2, h3, rfl⟩
  have hn : numShot s = numState s.State := rfl
  rw [hn] at hq1 ⊢
  obtain ⟨K, hK⟩ : ∃ z : Int, z = q + ((numState s.State : Nat) : Int) := ⟨_, rfl⟩
  have HK := Lib.hid hK
  rw [← hK]
  clear hK
  go_enter Try.func11, Try.ntmps11
  go_wp2_with fail
  refine (mark_State (H.ext ((Ext.refl w).alloc _)) hq0 hq1).mono ?_
  rintro e w1 ⟨rfl, hx1, u2, u3, eu, g2, g3, _⟩
  rw [← HK.out]
  injection eu with eu
  injection eu with eu
  injection eu with _ eu
  injection eu with _ eu
  injection eu with e2 eu
  injection eu with e3 eu
  subst e2; subst e3
  go_wp2_with fail
  go_ret
  exact ⟨rfl, (Ext.upd ((Ext.refl w).alloc _) _).trans hx1, _, _, rfl, g2, g3, rfl⟩
set_option maxHeartbeats 1600000 in
set_option maxRecDepth 100000 in
theorem held_Shot (h : MkShot B w v s F q) (hq0 : 0 ≤ q) (hq1 : q + (numShot s : Nat) ≤ 4611686018427387904) :
    Calls Try.prog 18 #[v, .int .i64 q] w (RetV w (.int .i64 (q + (numShot s : Nat)))) := by
  obtain ⟨t2, t3, rfl, h2, h3, rfl⟩ := h
  obtain ⟨a2, n2, k2, rfl⟩ := h2.shape
  obtain ⟨a3, n3, k3, rfl⟩ := h3.shape
  have H : MkState B w (.agg #[.int .i64 s.State.Index, .int .i64 s.State.Time, .slice a2 n2 k2, .slice a3 n3 k3, .int .i64 s.State.Lease.Holder, .int .i64 s.State.Lease.Epoch, .int .i64 s.State.Lease.Until]) s.State (feet [.slice a2 n2 k2] ++ feet [.slice a3 n3 k3]) q := ⟨_, _, rfl, h2, h3, rfl⟩
  have hn : numShot s = numState s.State := rfl
  rw [hn] at hq1 ⊢
  obtain ⟨K, hK⟩ : ∃ z : Int, z = q + ((numState s.State : Nat) : Int) := ⟨_, rfl⟩
  have HK := Lib.hid hK
  have hd : decide (K < 0) = false := by simp; omega
  rw [← hK]
  clear hK
  go_enter Try.func18, Try.ntmps18
  go_wp2_with fail
  refine (held_State (H.ext ((Ext.refl w).alloc _)) hq0 hq1).mono ?_
  rintro e w1 ⟨rfl, hx1⟩
  rw [← HK.out]
  go_wp2_with fail
  go_ret
  exact ⟨rfl, ((Ext.refl w).alloc _).trans hx1⟩
end
def RdRows (w : World) (v : Value) (l : List (List Int)) : Prop := Nest 0 w v (nestInt64S l)
def OwRows (B : Nat) (w : World) (v : Value) (l : List (List Int)) (F : List Nat) : Prop := ∃ ss : List Value, OwnNs B 52 2 0 w v (nestInt64S l) ss ∧ F = feet (v :: ss)
def numRows (l : List (List Int)) : Nat := tot 0 (nestInt64S l)
def MkRows (B : Nat) (w : World) (v : Value) (l : List (List Int)) (F : List Nat) (q : Int) : Prop := ∃ ss : List Value, OwnNs B 52 2 0 w v (marks 0 q (nestInt64S l)) ss ∧ F = feet (v :: ss)
section
variable {B B' : Nat} {w w' : World} {v : Value} {l : List (List Int)} {F : List Nat} {q : Int}
theorem RdRows.shape (h : RdRows w v l) : ∃ a n k, v = .slice a n k := Nest.shape h
theorem RdRows.ext (h : RdRows w v l) (x : Ext w w') : RdRows w' v l := Nest.ext h x
theorem OwRows.of (h : OwnNest B 52 2 0 w v (nestInt64S l)) : ∃ F, OwRows B w v l F := let ⟨ss, h⟩ := h; ⟨_, ss, h, rfl⟩
theorem OwRows.rd (h : OwRows B w v l F) : RdRows w v l := let ⟨_, h, _⟩ := h; h.nest
theorem OwRows.ext (h : OwRows B w v l F) (x : Ext w w') : OwRows B w' v l F := let ⟨s, h, e⟩ := h; ⟨s, h.ext x, e⟩
theorem OwRows.keep (h : OwRows B w v l F) (x : Chg B w w') : OwRows B w' v l F := let ⟨s, h, e⟩ := h; ⟨s, h.keep x, e⟩
theorem OwRows.mono (h : OwRows B w v l F) (x : B' ≤ B) : OwRows B' w v l F := let ⟨s, h, e⟩ := h; ⟨s, h.mono x, e⟩
theorem OwRows.upd (h : OwRows B w v l F) {fs : List Nat} (x : Upd w w' fs) (hn : ∀ k, k ∈ F → k ∈ fs → False) : OwRows B w' v l F := by
  obtain ⟨s, h, rfl⟩ := h
  exact ⟨s, h.upd x hn, rfl⟩
theorem OwRows.low (h : OwRows B w v l F) : ∀ k, k ∈ F → B ≤ k ∧ k < w.heap.size := by
  obtain ⟨s, h, rfl⟩ := h
  exact h.foot
theorem MkRows.ext (h : MkRows B w v l F q) (x : Ext w w') : MkRows B w' v l F q := let ⟨s, h, e⟩ := h; ⟨s, h.ext x, e⟩
theorem numRows_bound (N : Nat) : ∀ (l : List (List Int)), (∀ r, r ∈ l → r.length ≤ N) → numRows l ≤ l.length * N
  | [], _ => by simp [numRows, nestInt64S, tot]
  | x :: l, h => by
    have h1 := numRows_bound N l (fun r hr => h r (by simp [hr]))
    have h2 := h x (by simp)
    simp only [numRows, nestInt64S, tot, List.map_cons, List.sum_cons, List.length_cons, Nat.add_mul] at h1 ⊢
    omega
theorem numRows_le (q0 : rowsSize (nestInt64S l) ≤ 1048576) : numRows l ≤ 100000000 := by
  have := tot_zero (nestInt64S l)
  unfold numRows; omega
theorem to_Rows (h : RdRows w v l) (q0 : rowsSize (nestInt64S l) ≤ 1048576) :
    Calls Try.prog 16 #[v] w (Ret w fun v' w' => ∃ F, OwRows w.heap.size w' v' l F) := by
  refine (toInt64SS_c w v _ h q0).mono ?_
  rintro e w' ⟨_, rfl, hx, g⟩
  exact ⟨_, rfl, hx, OwRows.of g⟩
theorem sz_Rows (h : RdRows w v l) {left : Int} (h0 : 0 ≤ left) (h1 : left ≤ 1048576) :
    Calls Try.prog 14 #[v, .int .i64 left] w (Ret w fun v' _ => SzR left (rowsSize (nestInt64S l)) v') := szInt64SS_c w v _ left h h0 h1
theorem eq_Rows {u : Value} (h : RdRows w v l) (k : RdRows w u l) : Calls Try.prog 9 #[v, u] w (RetV w (.bool true)) := eqInt64SS_c w v u _ h k
theorem mark_Rows (h : OwRows B w v l F) (hq0 : 0 ≤ q) (hq1 : q + (numRows l : Nat) ≤ 4611686018427387904) :
    Calls Try.prog 12 #[v, .int .i64 q] w (RetM w F (.int .i64 (q + (numRows l : Nat))) fun w' => MkRows B w' v l F q) := by
  obtain ⟨s, h, rfl⟩ := h
  refine (markInt64SS_c w B v _ s q h hq0 hq1).mono ?_
  rintro e w' ⟨rfl, hx, g⟩
  exact ⟨rfl, hx, s, g, rfl⟩
theorem held_Rows (h : MkRows B w v l F q) (hq0 : 0 ≤ q) (hq1 : q + (numRows l : Nat) ≤ 4611686018427387904) :
    Calls Try.prog 13 #[v, .int .i64 q] w (RetV w (.int .i64 (q + (numRows l : Nat)))) := by
  obtain ⟨s, h, rfl⟩ := h
  exact heldInt64SS_c w v _ q h.nest hq0 hq1
end

end Go.Proofs.Ytemhbbpbmgpcaaa
