/- Disks as one thing: read, owned, marked. -/
import Derived.Test.YtankkbjlneeolaaHelpE
import Derived.Test.YtankkbjlneeolaaS4
set_option linter.unusedSimpArgs false
set_option linter.unusedVariables false
namespace Go.Proofs.Ytankkbjlneeolaa
open Go.RowKit Go.G8

def RdDisk (w : World) (v : Value) (d : DDisk) : Prop := ∃ t0 t1 : Value, v = .agg #[t0, t1] ∧ Nest 0 w t0 (nestInt64S d.Kept) ∧ Nest 1 w t1 (nestWrite d.Wait)
def OwDisk (B : Nat) (w : World) (v : Value) (d : DDisk) (F : List Nat) : Prop := ∃ t0 t1 : Value, ∃ ss0 ss1 : List Value, v = .agg #[t0, t1] ∧ OwnNs B 34 2 0 w t0 (nestInt64S d.Kept) ss0 ∧ OwnNs B 97 2 1 w t1 (nestWrite d.Wait) ss1 ∧ (∀ k, k ∈ feet (t0 :: ss0) → k ∈ feet (t1 :: ss1) → False) ∧ F = feet (t0 :: ss0) ++ feet (t1 :: ss1)
def nDisk (d : DDisk) : Nat := tot 0 (nestInt64S d.Kept) + tot 1 (nestWrite d.Wait)
def MkDisk (B : Nat) (w : World) (v : Value) (d : DDisk) (F : List Nat) (q : Int) : Prop := ∃ t0 t1 : Value, ∃ ss0 ss1 : List Value, v = .agg #[t0, t1] ∧ OwnNs B 34 2 0 w t0 (marks 0 q (nestInt64S d.Kept)) ss0 ∧ OwnNs B 97 2 1 w t1 (marks 1 (q + (tot 0 (nestInt64S d.Kept) : Nat)) (nestWrite d.Wait)) ss1 ∧ F = feet (t0 :: ss0) ++ feet (t1 :: ss1)
section
variable {B B' : Nat} {w w' : World} {v : Value} {d d' : DDisk} {F : List Nat} {q : Int}
theorem IsDisk.ow (h : IsDisk B w v d) : ∃ F, OwDisk B w v d F := let ⟨t0, t1, ss0, ss1, e, h0, h1, hd⟩ := h; ⟨_, t0, t1, ss0, ss1, e, h0, h1, hd, rfl⟩
theorem RdDisk.shape (h : RdDisk w v d) : ∃ a0 n0 k0 a1 n1 k1, v = .agg #[.slice a0 n0 k0, .slice a1 n1 k1] := by
  obtain ⟨t0, t1, rfl, h0, h1⟩ := h
  obtain ⟨a0, n0, k0, rfl⟩ := h0.shape
  obtain ⟨a1, n1, k1, rfl⟩ := h1.shape
  exact ⟨a0, n0, k0, a1, n1, k1, rfl⟩
theorem RdDisk.ext (h : RdDisk w v d) (x : Ext w w') : RdDisk w' v d := let ⟨t0, t1, e, h0, h1⟩ := h; ⟨t0, t1, e, h0.ext x, h1.ext x⟩
theorem RdDisk.get {a0 n0 k0 a1 n1 k1} (h : RdDisk w (.agg #[.slice a0 n0 k0, .slice a1 n1 k1]) d) : Nest 0 w (.slice a0 n0 k0) (nestInt64S d.Kept) ∧ Nest 1 w (.slice a1 n1 k1) (nestWrite d.Wait) := by
  obtain ⟨t0, t1, e, h0, h1⟩ := h
  injection e with e; injection e with e; injection e with e1 e; injection e with e2 _
  subst e1; subst e2
  exact ⟨h0, h1⟩
theorem OwDisk.rd (h : OwDisk B w v d F) : RdDisk w v d := let ⟨t0, t1, _, _, e, h0, h1, _, _⟩ := h; ⟨t0, t1, e, h0.nest, h1.nest⟩
theorem OwDisk.ext (h : OwDisk B w v d F) (x : Ext w w') : OwDisk B w' v d F := let ⟨t0, t1, s0, s1, e, h0, h1, hd, hF⟩ := h; ⟨t0, t1, s0, s1, e, h0.ext x, h1.ext x, hd, hF⟩
theorem OwDisk.upd (h : OwDisk B w v d F) {fs : List Nat} (x : Upd w w' fs) (hn : ∀ k, k ∈ F → k ∈ fs → False) : OwDisk B w' v d F := by
  obtain ⟨t0, t1, s0, s1, e, h0, h1, hd, rfl⟩ := h
  exact ⟨t0, t1, s0, s1, e, h0.upd x (fun k h => hn k (List.mem_append_left _ h)), h1.upd x (fun k h => hn k (List.mem_append_right _ h)), hd, rfl⟩
theorem OwDisk.low (h : OwDisk B w v d F) : ∀ k, k ∈ F → B ≤ k ∧ k < w.heap.size := by
  obtain ⟨t0, t1, s0, s1, e, h0, h1, hd, rfl⟩ := h
  intro k hk
  rcases List.mem_append.1 hk with h | h
  · exact h0.foot k h
  · exact h1.foot k h
theorem tot_zero (l : List NRow) : tot 0 l ≤ rowsSize l := by
  have : (l.map (fun r : NRow => 0 + r.2.length)).sum = (l.map (fun r : NRow => r.2.length)).sum := by simp
  unfold tot rowsSize; omega
theorem tot_one (l : List NRow) : tot 1 l ≤ rowsSize l := by
  unfold tot rowsSize
  induction l with
  | nil => simp
  | cons x l ih => simp only [List.map_cons, List.sum_cons, List.length_cons]; omega
theorem nDisk_le (d : DDisk) : nDisk d ≤ rowsSize (nestInt64S d.Kept) + rowsSize (nestWrite d.Wait) := by
  have := tot_zero (nestInt64S d.Kept); have := tot_one (nestWrite d.Wait)
  unfold nDisk; omega
theorem MkDisk.ext (h : MkDisk B w v d F q) (x : Ext w w') : MkDisk B w' v d F q := let ⟨t0, t1, s0, s1, e, h0, h1, hF⟩ := h; ⟨t0, t1, s0, s1, e, h0.ext x, h1.ext x, hF⟩
set_option maxHeartbeats 1600000 in
set_option maxRecDepth 100000 in
theorem mark_Disk (h : OwDisk B w v d F) (hq0 : 0 ≤ q) (hq1 : q + (nDisk d : Nat) ≤ 4611686018427387904) :
    Calls Try.prog 32 #[v, .int .i64 q] w (RetM w F (.int .i64 (q + (nDisk d : Nat))) fun w' => MkDisk B w' v d F q) := by
  obtain ⟨t0, t1, s0, s1, rfl, h0, h1, hd, rfl⟩ := h
  unfold nDisk at hq1 ⊢
  refine (markDisk_c w B t0 _ s0 t1 _ s1 q h0 h1 hd hq0 (by omega)).mono ?_
  rintro e w' ⟨rfl, hx, g0, g1⟩
  exact ⟨by rw [Int.natCast_add, Int.add_assoc], hx, t0, t1, s0, s1, rfl, g0, g1, rfl⟩
set_option maxHeartbeats 1600000 in
set_option maxRecDepth 100000 in
theorem held_Disk (h : MkDisk B w v d F q) (hq0 : 0 ≤ q) (hq1 : q + (nDisk d : Nat) ≤ 4611686018427387904) :
    Calls Try.prog 34 #[v, .int .i64 q] w (RetV w (.int .i64 (q + (nDisk d : Nat)))) := by
  obtain ⟨t0, t1, s0, s1, rfl, h0, h1, rfl⟩ := h
  unfold nDisk at hq1 ⊢
  have := heldDisk_c w t0 _ t1 _ q h0.nest h1.nest hq0 (by omega)
  rw [Int.natCast_add, ← Int.add_assoc]
  exact this
theorem eq_Disk {u : Value} (h : RdDisk w v d) (k : RdDisk w u d) : Calls Try.prog 30 #[v, u] w (RetV w (.bool true)) := by
  obtain ⟨t0, t1, rfl, h0, h1⟩ := h
  obtain ⟨u0, u1, rfl, k0, k1⟩ := k
  exact eqDisk_c w t0 u0 _ t1 u1 _ h0 k0 h1 k1
end
set_option maxHeartbeats 800000 in
theorem toDisk2_c (w : World) (s0 : Value) (d0 : List (List Int × List Int)) (s1 : Value) (d1 : List (List Int × List Int)) (h0 : Nest 0 w s0 d0) (hs0 : rowsSize d0 ≤ 1048576) (h1 : Nest 1 w s1 d1) (hs1 : rowsSize d1 ≤ 1048576) :
    Calls Try.prog 26 #[.agg #[s0, s1]] w (Ret w fun v w' => ∃ t0 t1 : Value, v = .agg #[t0, t1] ∧ ∃ ss0 ss1 : List Value, OwnNs w.heap.size 34 2 0 w' t0 d0 ss0 ∧ OwnNs w.heap.size 97 2 1 w' t1 d1 ss1 ∧ (∀ k, k ∈ feet (t0 :: ss0) → k ∈ feet (t1 :: ss1) → False)) := by
  go_enter Try.func26, Try.ntmps26
  go_wp2_with (first | (go_at_call 54; refine (toInt64SS_c _ s0 d0 (h0.ext (by repeat' (first | (with_reducible exact Ext.refl _) | (with_reducible assumption) | (with_reducible refine Ext.drewN ?_ _) | (with_reducible refine Ext.drew ?_) | (with_reducible refine Ext.alloc ?_ _) | (with_reducible refine Ext.setCell ?_ ?_ _) | (with_reducible exact Nat.le_refl _) | (with_reducible refine Ext.trans ?_ (by assumption)) | omega))) hs0).mono ?_; rintro e w1 ⟨t0, rfl, hx1, ss0, g0⟩; have F0 := g0.foot; obtain ⟨ta0, tn0, tc0, rfl⟩ := g0.nest.shape; have hz1 := hx1.size; obtain ⟨hc1, hf1⟩ := hx1.cells; (repeat (first | simp only [World.size_alloc] at hz1 hc1 hf1 g0 | simp only [World.size_setCell] at hz1 hc1 hf1 g0)); have hy1_0 : w.heap.size < w1.heap.size := (by omega); have hy1_1 : w.heap.size + 1 < w1.heap.size := (by omega); have hy1_2 : w.heap.size + 1 + 1 < w1.heap.size := (by omega)) | (go_at_call 55; refine (toWriteS_c _ s1 d1 (h1.ext (by repeat' (first | (with_reducible exact Ext.refl _) | (with_reducible assumption) | (with_reducible refine Ext.drewN ?_ _) | (with_reducible refine Ext.drew ?_) | (with_reducible refine Ext.alloc ?_ _) | (with_reducible refine Ext.setCell ?_ ?_ _) | (with_reducible exact Nat.le_refl _) | (with_reducible refine Ext.trans ?_ (by assumption)) | omega))) hs1).mono ?_; rintro e w2 ⟨t1, rfl, hx2, ss1, g1⟩; have F1 := g1.foot; obtain ⟨ta1, tn1, tc1, rfl⟩ := g1.nest.shape; have hz2 := hx2.size; obtain ⟨hc2, hf2⟩ := hx2.cells; (repeat (first | simp only [World.size_alloc] at hz2 hc2 hf2 g1 | simp only [World.size_setCell] at hz2 hc2 hf2 g1)); have hy2_0 : w.heap.size < w2.heap.size := (by omega); have hy2_1 : w.heap.size + 1 < w2.heap.size := (by omega); have hy2_2 : w.heap.size + 1 + 1 < w2.heap.size := (by omega)))
  refine bodyPost_ret (v := .agg #[.slice ta0 tn0 tc0, .slice ta1 tn1 tc1]) ?_ rfl ?_
  · simp [results, Try.results26, go_sem, *]
  · refine ⟨_, rfl, ?_, _, _, rfl, ss0, ss1, (g0.keep ?_).mono ?_, (g1.keep ?_).mono ?_, ?_⟩
    all_goals clear hc1 hf1 hc2 hf2
    · repeat' (first | (with_reducible exact Ext.refl _) | (with_reducible assumption) | (with_reducible refine Ext.drewN ?_ _) | (with_reducible refine Ext.drew ?_) | (with_reducible refine Ext.alloc ?_ _) | (with_reducible refine Ext.setCell ?_ ?_ _) | (with_reducible refine Ext.setRow ?_ ?_ _) | (with_reducible exact Nat.le_refl _) | (with_reducible refine Ext.trans ?_ (by assumption)) | omega)
    · repeat' (first | (with_reducible exact Chg.refl _ _) | (with_reducible refine Chg.drewN ?_ _) | (with_reducible refine Chg.drew ?_) | (with_reducible refine Chg.alloc ?_ _) | (with_reducible refine Chg.setLow ?_ (by omega) _) | (with_reducible refine Chg.setNew ?_ (by omega) _) | (with_reducible refine Chg.setRow ?_ (by omega) _) | (with_reducible refine Chg.ext ?_ (by assumption)) | omega)
    · omega
    · repeat' (first | (with_reducible exact Chg.refl _ _) | (with_reducible refine Chg.drewN ?_ _) | (with_reducible refine Chg.drew ?_) | (with_reducible refine Chg.alloc ?_ _) | (with_reducible refine Chg.setLow ?_ (by omega) _) | (with_reducible refine Chg.setNew ?_ (by omega) _) | (with_reducible refine Chg.setRow ?_ (by omega) _) | (with_reducible refine Chg.ext ?_ (by assumption)) | omega)
    · omega
    · intro k h1 h2
      have h5 := F0 k h1; have h6 := F1 k h2
      simp only [World.size_setCell, World.size_alloc] at h5 h6
      omega
theorem to_Disk {w : World} {v : Value} {d : DDisk} (h : RdDisk w v d) (hs0 : rowsSize (nestInt64S d.Kept) ≤ 1048576) (hs1 : rowsSize (nestWrite d.Wait) ≤ 1048576) :
    Calls Try.prog 26 #[v] w (Ret w fun v' w' => ∃ F, OwDisk w.heap.size w' v' d F) := by
  obtain ⟨t0, t1, rfl, h0, h1⟩ := h
  refine (toDisk2_c w t0 _ t1 _ h0 hs0 h1 hs1).mono ?_
  rintro e w' ⟨_, rfl, hx, u0, u1, rfl, s0, s1, g0, g1, hd⟩
  exact ⟨_, rfl, hx, _, u0, u1, s0, s1, rfl, g0, g1, hd, rfl⟩

end Go.Proofs.Ytankkbjlneeolaa
