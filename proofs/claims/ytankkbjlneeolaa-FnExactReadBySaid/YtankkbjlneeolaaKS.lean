/- Stores as one thing: read, owned, marked. -/
import Derived.Test.YtankkbjlneeolaaHelpH
import Derived.Test.YtankkbjlneeolaaKD
import Derived.Test.YtankkbjlneeolaaQ9
import Derived.Test.YtankkbjlneeolaaS5
set_option linter.unusedSimpArgs false
set_option linter.unusedVariables false
namespace Go.Proofs.Ytankkbjlneeolaa
open Go.RowKit Go.G8

end Go.Proofs.Ytankkbjlneeolaa
namespace Go.G8
open Go.RowKit
theorem OwnNs.typed {B : Nat} {e e1 : TypeId} {n : Nat} {w : World} {v : Value} {rows : List NRow} {ss : List Value} (h : OwnNs B e e1 n w v rows ss) {k : Nat} (hk : k ∈ feet (v :: ss)) : ∃ t cur, Blk w k t cur ∧ (t = e ∨ t = e1) := by
  simp only [feet, List.mem_filterMap] at hk
  obtain ⟨u, hu, hf⟩ := hk
  rcases List.mem_cons.1 hu with rfl | hu
  · obtain ⟨cur, hb⟩ := Own.typed h.2.2.1 hf
    exact ⟨e, cur, hb, .inl rfl⟩
  · obtain ⟨i, hi⟩ := List.mem_iff_getElem?.1 hu
    have hlt : i < rows.length := by have := (List.getElem?_eq_some_iff.1 hi).1; have := h.2.1; omega
    obtain ⟨cur, hb⟩ := Own.typed (h.2.2.2.own i u rows[i] hi (List.getElem?_eq_getElem hlt)) hf
    exact ⟨e1, cur, hb, .inr rfl⟩
theorem OwnI.typed {B : Nat} {e : TypeId} {n : Nat} {w : World} {v : Value} {xs : List Int} (h : OwnI B e n w v xs) {k : Nat} (hk : k ∈ feet [v]) : ∃ cur, Blk w k e cur := by
  simp only [feet, List.mem_filterMap] at hk
  obtain ⟨u, hu, hf⟩ := hk
  simp at hu; subst hu
  exact Own.typed h hf
theorem ns_apart {B B' : Nat} {e e1 e2 : TypeId} {n m : Nat} {w : World} {v v1 : Value} {rows : List NRow} {ss : List Value} {xs : List Int} (h : OwnNs B e e1 n w v rows ss) (h1 : OwnI B' e2 m w v1 xs) (n1 : e2 ≠ e) (n2 : e2 ≠ e1) : ∀ k, k ∈ feet (v :: ss) → k ∈ feet [v1] → False := by
  intro k hk hk1
  obtain ⟨t, cur, hb, ht⟩ := h.typed hk
  obtain ⟨c2, hb2⟩ := h1.typed hk1
  have := hb2.same hb
  rcases ht with rfl | rfl
  · exact n1 this
  · exact n2 this
theorem i_apart {B B' : Nat} {e e2 : TypeId} {n m : Nat} {w : World} {v v1 : Value} {ys xs : List Int} (h : OwnI B e n w v ys) (h1 : OwnI B' e2 m w v1 xs) (n1 : e2 ≠ e) : ∀ k, k ∈ feet [v] → k ∈ feet [v1] → False := by
  intro k hk hk1
  obtain ⟨cur, hb⟩ := h.typed hk
  obtain ⟨c2, hb2⟩ := h1.typed hk1
  exact n1 (hb2.same hb)
end Go.G8
namespace Go.Proofs.Ytankkbjlneeolaa
open Go.RowKit Go.G8
def RdStore (w : World) (v : Value) (s : DStore) : Prop := ∃ t0 t1 t4 t5 : Value, v = .agg #[t0, t1, .int .i64 s.State.Index, .int .i64 s.State.Time, t4, t5, .int .i64 s.State.Lease.Holder, .int .i64 s.State.Lease.Epoch, .int .i64 s.State.Lease.Until, .int .i64 s.Num, .int .i64 s.Last, .int .i64 s.Busy] ∧ Nest 0 w t0 (nestInt64S s.Disk.Kept) ∧ Nest 1 w t1 (nestWrite s.Disk.Wait) ∧ Ints 2 w t4 (flPair s.State.Pairs) ∧ Ints 5 w t5 (flJob s.State.Jobs)
def OwStore (B : Nat) (w : World) (v : Value) (s : DStore) (F : List Nat) : Prop := ∃ t0 t1 t4 t5 : Value, ∃ ss0 ss1 : List Value, v = .agg #[t0, t1, .int .i64 s.State.Index, .int .i64 s.State.Time, t4, t5, .int .i64 s.State.Lease.Holder, .int .i64 s.State.Lease.Epoch, .int .i64 s.State.Lease.Until, .int .i64 s.Num, .int .i64 s.Last, .int .i64 s.Busy] ∧ OwnNs B 34 2 0 w t0 (nestInt64S s.Disk.Kept) ss0 ∧ OwnNs B 97 2 1 w t1 (nestWrite s.Disk.Wait) ss1 ∧ OwnI B 111 2 w t4 (flPair s.State.Pairs) ∧ OwnI B 119 5 w t5 (flJob s.State.Jobs) ∧ (∀ k, k ∈ feet (t0 :: ss0) → k ∈ feet (t1 :: ss1) → False) ∧ F = (feet (t0 :: ss0) ++ feet (t1 :: ss1)) ++ (feet [t4] ++ feet [t5])
def nStore (s : DStore) : Nat := tot 0 (nestInt64S s.Disk.Kept) + tot 1 (nestWrite s.Disk.Wait) + s.State.Pairs.length * 2 + s.State.Jobs.length * 5
def MkStore (B : Nat) (w : World) (v : Value) (s : DStore) (F : List Nat) (q : Int) : Prop := ∃ t0 t1 t4 t5 : Value, ∃ ss0 ss1 : List Value, v = .agg #[t0, t1, .int .i64 s.State.Index, .int .i64 s.State.Time, t4, t5, .int .i64 s.State.Lease.Holder, .int .i64 s.State.Lease.Epoch, .int .i64 s.State.Lease.Until, .int .i64 s.Num, .int .i64 s.Last, .int .i64 s.Busy] ∧ OwnNs B 34 2 0 w t0 (marks 0 q (nestInt64S s.Disk.Kept)) ss0 ∧ OwnNs B 97 2 1 w t1 (marks 1 (q + (tot 0 (nestInt64S s.Disk.Kept) : Nat)) (nestWrite s.Disk.Wait)) ss1 ∧ OwnI B 111 2 w t4 (run (q + (tot 0 (nestInt64S s.Disk.Kept) : Nat) + (tot 1 (nestWrite s.Disk.Wait) : Nat)) (s.State.Pairs.length * 2)) ∧ OwnI B 119 5 w t5 (run (q + (tot 0 (nestInt64S s.Disk.Kept) : Nat) + (tot 1 (nestWrite s.Disk.Wait) : Nat) + (s.State.Pairs.length * 2 : Nat)) (s.State.Jobs.length * 5))
section
variable {B B' : Nat} {w w' : World} {v : Value} {s s' : DStore} {F : List Nat} {q : Int}
theorem RdStore.shape (h : RdStore w v s) : ∃ a0 n0 k0 a1 n1 k1 a4 n4 k4 a5 n5 k5, v = .agg #[.slice a0 n0 k0, .slice a1 n1 k1, .int .i64 s.State.Index, .int .i64 s.State.Time, .slice a4 n4 k4, .slice a5 n5 k5, .int .i64 s.State.Lease.Holder, .int .i64 s.State.Lease.Epoch, .int .i64 s.State.Lease.Until, .int .i64 s.Num, .int .i64 s.Last, .int .i64 s.Busy] := by
  obtain ⟨t0, t1, t4, t5, rfl, h0, h1, h4, h5⟩ := h
  obtain ⟨a0, n0, k0, rfl⟩ := h0.shape
  obtain ⟨a1, n1, k1, rfl⟩ := h1.shape
  obtain ⟨a4, n4, k4, rfl⟩ := h4.shape
  obtain ⟨a5, n5, k5, rfl⟩ := h5.shape
  exact ⟨a0, n0, k0, a1, n1, k1, a4, n4, k4, a5, n5, k5, rfl⟩
theorem RdStore.ext (h : RdStore w v s) (x : Ext w w') : RdStore w' v s := let ⟨t0, t1, t4, t5, e, h0, h1, h4, h5⟩ := h; ⟨t0, t1, t4, t5, e, h0.ext x, h1.ext x, h4.ext x, h5.ext x⟩
theorem OwStore.rd (h : OwStore B w v s F) : RdStore w v s := let ⟨t0, t1, t4, t5, _, _, e, h0, h1, h4, h5, _, _⟩ := h; ⟨t0, t1, t4, t5, e, h0.nest, h1.nest, h4.ints, h5.ints⟩
theorem OwStore.ext (h : OwStore B w v s F) (x : Ext w w') : OwStore B w' v s F := let ⟨t0, t1, t4, t5, s0, s1, e, h0, h1, h4, h5, hd, hF⟩ := h; ⟨t0, t1, t4, t5, s0, s1, e, h0.ext x, h1.ext x, Own.ext h4 x, Own.ext h5 x, hd, hF⟩
theorem OwStore.keep (h : OwStore B w v s F) (x : Chg B w w') : OwStore B w' v s F := let ⟨t0, t1, t4, t5, s0, s1, e, h0, h1, h4, h5, hd, hF⟩ := h; ⟨t0, t1, t4, t5, s0, s1, e, h0.keep x, h1.keep x, h4.keep x, h5.keep x, hd, hF⟩
theorem OwStore.mono (h : OwStore B w v s F) (x : B' ≤ B) : OwStore B' w v s F := let ⟨t0, t1, t4, t5, s0, s1, e, h0, h1, h4, h5, hd, hF⟩ := h; ⟨t0, t1, t4, t5, s0, s1, e, h0.mono x, h1.mono x, h4.mono x, h5.mono x, hd, hF⟩
theorem OwStore.cast (h : OwStore B w v s F) (e : s = s') : OwStore B w v s' F := e ▸ h
theorem OwStore.upd (h : OwStore B w v s F) {fs : List Nat} (x : Upd w w' fs) (hn : ∀ k, k ∈ F → k ∈ fs → False) : OwStore B w' v s F := by
  obtain ⟨t0, t1, t4, t5, s0, s1, e, h0, h1, h4, h5, hd, rfl⟩ := h
  exact ⟨t0, t1, t4, t5, s0, s1, e, h0.upd x (fun k h => hn k (List.mem_append_left _ (List.mem_append_left _ h))), h1.upd x (fun k h => hn k (List.mem_append_left _ (List.mem_append_right _ h))), OwnI.upd' h4 x (fun k h => hn k (List.mem_append_right _ (List.mem_append_left _ h))), OwnI.upd' h5 x (fun k h => hn k (List.mem_append_right _ (List.mem_append_right _ h))), hd, rfl⟩
theorem OwStore.low (h : OwStore B w v s F) : ∀ k, k ∈ F → B ≤ k ∧ k < w.heap.size := by
  obtain ⟨t0, t1, t4, t5, s0, s1, e, h0, h1, h4, h5, hd, rfl⟩ := h
  intro k hk
  rcases List.mem_append.1 hk with h | h
  · rcases List.mem_append.1 h with h | h
    · exact h0.foot k h
    · exact h1.foot k h
  · rcases List.mem_append.1 h with h | h
    · exact h4.foot k h
    · exact h5.foot k h
theorem MkStore.ext (h : MkStore B w v s F q) (x : Ext w w') : MkStore B w' v s F q := let ⟨t0, t1, t4, t5, s0, s1, e, h0, h1, h4, h5⟩ := h; ⟨t0, t1, t4, t5, s0, s1, e, h0.ext x, h1.ext x, Own.ext h4 x, Own.ext h5 x⟩
theorem nStore_eq (s : DStore) : nStore s = nDisk s.Disk + s.State.Pairs.length * 2 + s.State.Jobs.length * 5 := rfl
theorem nStore_le (s : DStore) (q4 : s.State.Pairs.length ≤ 1048576) (q5 : s.State.Jobs.length ≤ 1048576) (q0 : rowsSize (nestInt64S s.Disk.Kept) ≤ 1048576) (q1 : rowsSize (nestWrite s.Disk.Wait) ≤ 1048576) : nStore s ≤ 100000000 := by
  have := nDisk_le s.Disk
  rw [nStore_eq]; omega
set_option maxHeartbeats 1600000 in
set_option maxRecDepth 100000 in
theorem mark_Store (h : OwStore B w v s F) (hq0 : 0 ≤ q) (hq1 : q + (nStore s : Nat) ≤ 4611686018427387904) :
    Calls Try.prog 13 #[v, .int .i64 q] w (RetM w F (.int .i64 (q + (nStore s : Nat))) fun w' => MkStore B w' v s F q) := by
  obtain ⟨t0, t1, t4, t5, s0, s1, rfl, h0, h1, h4, h5, hd, rfl⟩ := h
  have a04 := ns_apart h0 h4 (by decide) (by decide); have a05 := ns_apart h0 h5 (by decide) (by decide)
  have a14 := ns_apart h1 h4 (by decide) (by decide); have a15 := ns_apart h1 h5 (by decide) (by decide)
  unfold nStore at hq1 ⊢
  refine (markStore_c w B t0 _ s0 t1 _ s1 _ _ t4 _ s.State.Pairs.length (length_flPair _) t5 _ s.State.Jobs.length (length_flJob _) _ _ _ _ _ _ q h0 h1 h4 h5 hd (fun k hk hk' => ?_) (i_apart h4 h5 (by decide)) hq0 (by omega)).mono ?_
  · rcases List.mem_append.1 hk with h | h <;> rcases List.mem_append.1 hk' with h' | h'
    · exact a04 k h h'
    · exact a05 k h h'
    · exact a14 k h h'
    · exact a15 k h h'
  rintro e w' ⟨rfl, hx, g0, g1, g4, g5⟩
  refine ⟨?_, hx, t0, t1, t4, t5, s0, s1, rfl, g0, g1, g4, g5⟩
  exact congrArg (fun z : Int => Ending.returned (Value.int .i64 z)) (by omega)
set_option maxHeartbeats 1600000 in
set_option maxRecDepth 100000 in
theorem held_Store (h : MkStore B w v s F q) (hq0 : 0 ≤ q) (hq1 : q + (nStore s : Nat) ≤ 4611686018427387904) :
    Calls Try.prog 15 #[v, .int .i64 q] w (RetV w (.int .i64 (q + (nStore s : Nat)))) := by
  obtain ⟨t0, t1, t4, t5, s0, s1, rfl, h0, h1, h4, h5⟩ := h
  unfold nStore at hq1 ⊢
  refine (heldStore_c w t0 _ t1 _ _ _ t4 s.State.Pairs.length t5 s.State.Jobs.length _ _ _ _ _ _ q h0.nest h1.nest h4.ints h5.ints hq0 (by omega)).mono ?_
  rintro e w' ⟨rfl, hx⟩
  refine ⟨?_, hx⟩
  exact congrArg (fun z : Int => Ending.returned (Value.int .i64 z)) (by omega)
theorem eq_Store {u : Value} (h : RdStore w v s) (k : RdStore w u s) : Calls Try.prog 11 #[v, u] w (RetV w (.bool true)) := by
  obtain ⟨t0, t1, t4, t5, rfl, h0, h1, h4, h5⟩ := h
  obtain ⟨u0, u1, u4, u5, rfl, k0, k1, k4, k5⟩ := k
  exact eqStore_c w t0 u0 _ t1 u1 _ _ _ t4 u4 _ t5 u5 _ _ _ _ _ _ _ h0 k0 h1 k1 h4 k4 h5 k5
end
set_option maxHeartbeats 1600000 in
theorem toStore2_c (w : World) (s0 : Value) (d0 : List (List Int × List Int)) (s1 : Value) (d1 : List (List Int × List Int)) (c2 : Int) (c3 : Int) (s4 : Value) (d4 : List Int) (L4 : Nat) (hL4 : d4.length = L4 * 2) (s5 : Value) (d5 : List Int) (L5 : Nat) (hL5 : d5.length = L5 * 5) (c6 : Int) (c7 : Int) (c8 : Int) (c9 : Int) (c10 : Int) (c11 : Int) (h0 : Nest 0 w s0 d0) (hs0 : rowsSize d0 ≤ 1048576) (h1 : Nest 1 w s1 d1) (hs1 : rowsSize d1 ≤ 1048576) (h4 : Ints 2 w s4 d4) (hs4 : L4 ≤ 1048576) (h5 : Ints 5 w s5 d5) (hs5 : L5 ≤ 1048576) :
    Calls Try.prog 8 #[.agg #[s0, s1, .int .i64 c2, .int .i64 c3, s4, s5, .int .i64 c6, .int .i64 c7, .int .i64 c8, .int .i64 c9, .int .i64 c10, .int .i64 c11]] w (Ret w fun v w' => ∃ t0 t1 t4 t5 : Value, v = .agg #[t0, t1, .int .i64 c2, .int .i64 c3, t4, t5, .int .i64 c6, .int .i64 c7, .int .i64 c8, .int .i64 c9, .int .i64 c10, .int .i64 c11] ∧ ∃ ss0 ss1 : List Value, OwnNs w.heap.size 34 2 0 w' t0 d0 ss0 ∧ OwnNs w.heap.size 97 2 1 w' t1 d1 ss1 ∧ (∀ k, k ∈ feet (t0 :: ss0) → k ∈ feet (t1 :: ss1) → False) ∧ OwnI w.heap.size 111 2 w' t4 d4 ∧ OwnI w.heap.size 119 5 w' t5 d5) := by
  go_enter Try.func8, Try.ntmps8
  go_wp2_with (first | (go_at_call 26; refine (toDisk2_c _ s0 d0 s1 d1 (h0.ext (by repeat' (first | (with_reducible exact Ext.refl _) | (with_reducible assumption) | (with_reducible refine Ext.drewN ?_ _) | (with_reducible refine Ext.drew ?_) | (with_reducible refine Ext.alloc ?_ _) | (with_reducible refine Ext.setCell ?_ ?_ _) | (with_reducible exact Nat.le_refl _) | (with_reducible refine Ext.trans ?_ (by assumption)) | omega))) hs0 (h1.ext (by repeat' (first | (with_reducible exact Ext.refl _) | (with_reducible assumption) | (with_reducible refine Ext.drewN ?_ _) | (with_reducible refine Ext.drew ?_) | (with_reducible refine Ext.alloc ?_ _) | (with_reducible refine Ext.setCell ?_ ?_ _) | (with_reducible exact Nat.le_refl _) | (with_reducible refine Ext.trans ?_ (by assumption)) | omega))) hs1).mono ?_; rintro e w1 ⟨_, rfl, hx1, t0, t1, rfl, ss0, ss1, g0, g1, hd⟩; obtain ⟨ta0, tn0, tc0, rfl⟩ := g0.nest.shape; obtain ⟨ta1, tn1, tc1, rfl⟩ := g1.nest.shape; have hz1 := hx1.size; obtain ⟨hc1, hf1⟩ := hx1.cells; (repeat (first | simp only [World.size_alloc] at hz1 hc1 hf1 g0 g1 | simp only [World.size_setCell] at hz1 hc1 hf1 g0 g1)); have hy1_0 : w.heap.size < w1.heap.size := (by omega); have hy1_1 : w.heap.size + 1 < w1.heap.size := (by omega); have hy1_2 : w.heap.size + 1 + 1 < w1.heap.size := (by omega)) | (go_at_call 27; refine (toState_c _ c2 c3 s4 d4 L4 hL4 s5 d5 L5 hL5 c6 c7 c8 (h4.ext (by repeat' (first | (with_reducible exact Ext.refl _) | (with_reducible assumption) | (with_reducible refine Ext.drewN ?_ _) | (with_reducible refine Ext.drew ?_) | (with_reducible refine Ext.alloc ?_ _) | (with_reducible refine Ext.setCell ?_ ?_ _) | (with_reducible exact Nat.le_refl _) | (with_reducible refine Ext.trans ?_ (by assumption)) | omega))) hs4 (h5.ext (by repeat' (first | (with_reducible exact Ext.refl _) | (with_reducible assumption) | (with_reducible refine Ext.drewN ?_ _) | (with_reducible refine Ext.drew ?_) | (with_reducible refine Ext.alloc ?_ _) | (with_reducible refine Ext.setCell ?_ ?_ _) | (with_reducible exact Nat.le_refl _) | (with_reducible refine Ext.trans ?_ (by assumption)) | omega))) hs5).mono ?_; rintro e w2 ⟨_, rfl, hx2, t4, t5, rfl, g4, g5⟩; obtain ⟨ta4, tn4, tc4, rfl⟩ := g4.shape; obtain ⟨ta5, tn5, tc5, rfl⟩ := g5.shape; have hz2 := hx2.size; obtain ⟨hc2, hf2⟩ := hx2.cells; (repeat (first | simp only [World.size_alloc] at hz2 hc2 hf2 g4 g5 | simp only [World.size_setCell] at hz2 hc2 hf2 g4 g5)); have hy2_0 : w.heap.size < w2.heap.size := (by omega); have hy2_1 : w.heap.size + 1 < w2.heap.size := (by omega); have hy2_2 : w.heap.size + 1 + 1 < w2.heap.size := (by omega)))
  refine bodyPost_ret (v := .agg #[.slice ta0 tn0 tc0, .slice ta1 tn1 tc1, .int .i64 c2, .int .i64 c3, .slice ta4 tn4 tc4, .slice ta5 tn5 tc5, .int .i64 c6, .int .i64 c7, .int .i64 c8, .int .i64 c9, .int .i64 c10, .int .i64 c11]) ?_ rfl ?_
  · simp [results, Try.results8, go_sem, *]
  · refine ⟨_, rfl, ?_, _, _, _, _, rfl, ss0, ss1, (g0.keep ?_).mono ?_, (g1.keep ?_).mono ?_, hd, (g4.keep ?_).mono ?_, (g5.keep ?_).mono ?_⟩
    all_goals clear hc1 hf1 hc2 hf2
    · repeat' (first | (with_reducible exact Ext.refl _) | (with_reducible assumption) | (with_reducible refine Ext.drewN ?_ _) | (with_reducible refine Ext.drew ?_) | (with_reducible refine Ext.alloc ?_ _) | (with_reducible refine Ext.setCell ?_ ?_ _) | (with_reducible exact Nat.le_refl _) | (with_reducible refine Ext.trans ?_ (by assumption)) | omega)
    · repeat' (first | (with_reducible exact Chg.refl _ _) | (with_reducible refine Chg.drewN ?_ _) | (with_reducible refine Chg.drew ?_) | (with_reducible refine Chg.alloc ?_ _) | (with_reducible refine Chg.setLow ?_ ?_ _) | (with_reducible refine Chg.ext ?_ (by assumption)) | omega)
    · omega
    · repeat' (first | (with_reducible exact Chg.refl _ _) | (with_reducible refine Chg.drewN ?_ _) | (with_reducible refine Chg.drew ?_) | (with_reducible refine Chg.alloc ?_ _) | (with_reducible refine Chg.setLow ?_ ?_ _) | (with_reducible refine Chg.ext ?_ (by assumption)) | omega)
    · omega
    · repeat' (first | (with_reducible exact Chg.refl _ _) | (with_reducible refine Chg.drewN ?_ _) | (with_reducible refine Chg.drew ?_) | (with_reducible refine Chg.alloc ?_ _) | (with_reducible refine Chg.setLow ?_ ?_ _) | (with_reducible refine Chg.ext ?_ (by assumption)) | omega)
    · omega
    · repeat' (first | (with_reducible exact Chg.refl _ _) | (with_reducible refine Chg.drewN ?_ _) | (with_reducible refine Chg.drew ?_) | (with_reducible refine Chg.alloc ?_ _) | (with_reducible refine Chg.setLow ?_ ?_ _) | (with_reducible refine Chg.ext ?_ (by assumption)) | omega)
    · omega
theorem to_Store {w : World} {v : Value} {s : DStore} (h : RdStore w v s) (hs0 : rowsSize (nestInt64S s.Disk.Kept) ≤ 1048576) (hs1 : rowsSize (nestWrite s.Disk.Wait) ≤ 1048576) (hs4 : s.State.Pairs.length ≤ 1048576) (hs5 : s.State.Jobs.length ≤ 1048576) :
    Calls Try.prog 8 #[v] w (Ret w fun v' w' => ∃ F, OwStore w.heap.size w' v' s F) := by
  obtain ⟨t0, t1, t4, t5, rfl, h0, h1, h4, h5⟩ := h
  refine (toStore2_c w t0 _ t1 _ _ _ t4 _ _ (length_flPair _) t5 _ _ (length_flJob _) _ _ _ _ _ _ h0 hs0 h1 hs1 h4 hs4 h5 hs5).mono ?_
  rintro e w' ⟨_, rfl, hx, u0, u1, u4, u5, rfl, s0, s1, g0, g1, hd, g4, g5⟩
  exact ⟨_, rfl, hx, _, u0, u1, u4, u5, s0, s1, rfl, g0, g1, g4, g5, hd, rfl⟩

end Go.Proofs.Ytankkbjlneeolaa
