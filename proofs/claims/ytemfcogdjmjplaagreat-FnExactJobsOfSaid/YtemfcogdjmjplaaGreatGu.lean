/- Contracts and plain laws: KD Q2 Q3. -/
import Derived.Test.YtemfcogdjmjplaaGreatGb
import Derived.Test.YtemfcogdjmjplaaGreatGe
-- Disks as one thing: read, owned, marked.
set_option linter.unusedSimpArgs false
set_option linter.unusedVariables false
namespace Go.Proofs.YtemfcogdjmjplaaGreat
open Go.RowKit Go.G8

def RdDisk (w : World) (v : Value) (d : DDisk) : Prop := ∃ t0 t1 : Value, v = .agg #[t0, t1] ∧ Nest 0 w t0 (nestInt64S d.Kept) ∧ Nest 1 w t1 (nestWrite d.Wait)
def OwDisk (B : Nat) (w : World) (v : Value) (d : DDisk) (F : List Nat) : Prop := ∃ t0 t1 : Value, ∃ ss0 ss1 : List Value, v = .agg #[t0, t1] ∧ OwnNs B 169 2 0 w t0 (nestInt64S d.Kept) ss0 ∧ OwnNs B 196 2 1 w t1 (nestWrite d.Wait) ss1 ∧ (∀ k, k ∈ feet (t0 :: ss0) → k ∈ feet (t1 :: ss1) → False) ∧ F = feet (t0 :: ss0) ++ feet (t1 :: ss1)
def nDisk (d : DDisk) : Nat := tot 0 (nestInt64S d.Kept) + tot 1 (nestWrite d.Wait)
def MkDisk (B : Nat) (w : World) (v : Value) (d : DDisk) (F : List Nat) (q : Int) : Prop := ∃ t0 t1 : Value, ∃ ss0 ss1 : List Value, v = .agg #[t0, t1] ∧ OwnNs B 169 2 0 w t0 (marks 0 q (nestInt64S d.Kept)) ss0 ∧ OwnNs B 196 2 1 w t1 (marks 1 (q + (tot 0 (nestInt64S d.Kept) : Nat)) (nestWrite d.Wait)) ss1 ∧ F = feet (t0 :: ss0) ++ feet (t1 :: ss1)
section
variable {B B' : Nat} {w w' : World} {v : Value} {d d' : DDisk} {F : List Nat} {q : Int}
theorem RdDisk.shape (h : RdDisk w v d) : ∃ a0 n0 k0 a1 n1 k1, v = .agg #[.slice a0 n0 k0, .slice a1 n1 k1] := by
  obtain ⟨t0, t1, rfl, h0, h1⟩ := h
  obtain ⟨a0, n0, k0, rfl⟩ := h0.shape
  obtain ⟨a1, n1, k1, rfl⟩ := h1.shape
  exact ⟨a0, n0, k0, a1, n1, k1, rfl⟩
theorem RdDisk.ext (h : RdDisk w v d) (x : Ext w w') : RdDisk w' v d := let ⟨t0, t1, e, h0, h1⟩ := h; ⟨t0, t1, e, h0.ext x, h1.ext x⟩
theorem RdDisk.get {a0 n0 k0 a1 n1 k1} (h : RdDisk w (.agg #[.slice a0 n0 k0, .slice a1 n1 k1]) d) : Nest 0 w (.slice a0 n0 k0) (nestInt64S d.Kept) ∧ Nest 1 w (.slice a1 n1 k1) (nestWrite d.Wait) := by
  obtain ⟨t0, t1, e, h0, h1⟩ := h
  injection e with e; injection e with e; injection e with e1 e; injection e with e2 _
  subst e1; subst e2
  exact ⟨h0, h1⟩
theorem OwDisk.rd (h : OwDisk B w v d F) : RdDisk w v d := let ⟨t0, t1, _, _, e, h0, h1, _, _⟩ := h; ⟨t0, t1, e, h0.nest, h1.nest⟩
theorem OwDisk.ext (h : OwDisk B w v d F) (x : Ext w w') : OwDisk B w' v d F := let ⟨t0, t1, s0, s1, e, h0, h1, hd, hF⟩ := h; ⟨t0, t1, s0, s1, e, h0.ext x, h1.ext x, hd, hF⟩
theorem OwDisk.upd (h : OwDisk B w v d F) {fs : List Nat} (x : Upd w w' fs) (hn : ∀ k, k ∈ F → k ∈ fs → False) : OwDisk B w' v d F := by
  obtain ⟨t0, t1, s0, s1, e, h0, h1, hd, rfl⟩ := h
  exact ⟨t0, t1, s0, s1, e, h0.upd x (fun k h => hn k (List.mem_append_left _ h)), h1.upd x (fun k h => hn k (List.mem_append_right _ h)), hd, rfl⟩
theorem OwDisk.low (h : OwDisk B w v d F) : ∀ k, k ∈ F → B ≤ k ∧ k < w.heap.size := by
  obtain ⟨t0, t1, s0, s1, e, h0, h1, hd, rfl⟩ := h
  intro k hk
  rcases List.mem_append.1 hk with h | h
  · exact h0.foot k h
  · exact h1.foot k h
theorem nDisk_le (d : DDisk) : nDisk d ≤ rowsSize (nestInt64S d.Kept) + rowsSize (nestWrite d.Wait) := by
  have := tot_zero (nestInt64S d.Kept); have := tot_one (nestWrite d.Wait)
  unfold nDisk; omega
theorem IsDisk.rd (h : IsDisk B w v d) : RdDisk w v d := let ⟨t0, t1, _, _, e, h0, h1, _⟩ := h; ⟨t0, t1, e, h0.nest, h1.nest⟩
theorem OwDisk.is (h : OwDisk B w v d F) : IsDisk B w v d := let ⟨t0, t1, s0, s1, e, h0, h1, hd, _⟩ := h; ⟨t0, t1, s0, s1, e, h0, h1, hd⟩
theorem MkDisk.ext (h : MkDisk B w v d F q) (x : Ext w w') : MkDisk B w' v d F q := let ⟨t0, t1, s0, s1, e, h0, h1, hF⟩ := h; ⟨t0, t1, s0, s1, e, h0.ext x, h1.ext x, hF⟩
end
set_option maxHeartbeats 800000 in
theorem toDisk2_c (w : World) (s0 : Value) (d0 : List (List Int × List Int)) (s1 : Value) (d1 : List (List Int × List Int)) (h0 : Nest 0 w s0 d0) (hs0 : rowsSize d0 ≤ 1048576) (h1 : Nest 1 w s1 d1) (hs1 : rowsSize d1 ≤ 1048576) :
    Calls Tryz.prog 38 #[.agg #[s0, s1]] w (Ret w fun v w' => ∃ t0 t1 : Value, v = .agg #[t0, t1] ∧ ∃ ss0 ss1 : List Value, OwnNs w.heap.size 169 2 0 w' t0 d0 ss0 ∧ OwnNs w.heap.size 196 2 1 w' t1 d1 ss1 ∧ (∀ k, k ∈ feet (t0 :: ss0) → k ∈ feet (t1 :: ss1) → False)) := by
  go_enter Tryz.func38, Tryz.ntmps38
  go_wp2_with (first | (go_at_call 93; refine (toInt64SS_c _ s0 d0 (h0.ext (by repeat' (first | (with_reducible exact Ext.refl _) | (with_reducible assumption) | (with_reducible refine Ext.drewN ?_ _) | (with_reducible refine Ext.drew ?_) | (with_reducible refine Ext.alloc ?_ _) | (with_reducible refine Ext.setCell ?_ ?_ _) | (with_reducible exact Nat.le_refl _) | (with_reducible refine Ext.trans ?_ (by assumption)) | omega))) hs0).mono ?_; rintro e w1 ⟨t0, rfl, hx1, ss0, g0⟩; have F0 := g0.foot; obtain ⟨ta0, tn0, tc0, rfl⟩ := g0.nest.shape; have hz1 := hx1.size; obtain ⟨hc1, hf1⟩ := hx1.cells; (repeat (first | simp only [World.size_alloc] at hz1 hc1 hf1 g0 | simp only [World.size_setCell] at hz1 hc1 hf1 g0)); have hy1_0 : w.heap.size < w1.heap.size := (by omega); have hy1_1 : w.heap.size + 1 < w1.heap.size := (by omega); have hy1_2 : w.heap.size + 1 + 1 < w1.heap.size := (by omega)) | (go_at_call 94; refine (toWriteS_c _ s1 d1 (h1.ext (by repeat' (first | (with_reducible exact Ext.refl _) | (with_reducible assumption) | (with_reducible refine Ext.drewN ?_ _) | (with_reducible refine Ext.drew ?_) | (with_reducible refine Ext.alloc ?_ _) | (with_reducible refine Ext.setCell ?_ ?_ _) | (with_reducible exact Nat.le_refl _) | (with_reducible refine Ext.trans ?_ (by assumption)) | omega))) hs1).mono ?_; rintro e w2 ⟨t1, rfl, hx2, ss1, g1⟩; have F1 := g1.foot; obtain ⟨ta1, tn1, tc1, rfl⟩ := g1.nest.shape; have hz2 := hx2.size; obtain ⟨hc2, hf2⟩ := hx2.cells; (repeat (first | simp only [World.size_alloc] at hz2 hc2 hf2 g1 | simp only [World.size_setCell] at hz2 hc2 hf2 g1)); have hy2_0 : w.heap.size < w2.heap.size := (by omega); have hy2_1 : w.heap.size + 1 < w2.heap.size := (by omega); have hy2_2 : w.heap.size + 1 + 1 < w2.heap.size := (by omega)))
  refine bodyPost_ret (v := .agg #[.slice ta0 tn0 tc0, .slice ta1 tn1 tc1]) ?_ rfl ?_
  · simp [results, Tryz.results38, go_sem, *]
  · refine ⟨_, rfl, ?_, _, _, rfl, ss0, ss1, (g0.keep ?_).mono ?_, (g1.keep ?_).mono ?_, ?_⟩
    all_goals clear hc1 hf1 hc2 hf2
    · repeat' (first | (with_reducible exact Ext.refl _) | (with_reducible assumption) | (with_reducible refine Ext.drewN ?_ _) | (with_reducible refine Ext.drew ?_) | (with_reducible refine Ext.alloc ?_ _) | (with_reducible refine Ext.setCell ?_ ?_ _) | (with_reducible refine Ext.setRow ?_ ?_ _) | (with_reducible exact Nat.le_refl _) | (with_reducible refine Ext.trans ?_ (by assumption)) | omega)
    · repeat' (first | (with_reducible exact Chg.refl _ _) | (with_reducible refine Chg.drewN ?_ _) | (with_reducible refine Chg.drew ?_) | (with_reducible refine Chg.alloc ?_ _) | (with_reducible refine Chg.setLow ?_ (by omega) _) | (with_reducible refine Chg.setNew ?_ (by omega) _) | (with_reducible refine Chg.setRow ?_ (by omega) _) | (with_reducible refine Chg.ext ?_ (by assumption)) | omega)
    · omega
    · repeat' (first | (with_reducible exact Chg.refl _ _) | (with_reducible refine Chg.drewN ?_ _) | (with_reducible refine Chg.drew ?_) | (with_reducible refine Chg.alloc ?_ _) | (with_reducible refine Chg.setLow ?_ (by omega) _) | (with_reducible refine Chg.setNew ?_ (by omega) _) | (with_reducible refine Chg.setRow ?_ (by omega) _) | (with_reducible refine Chg.ext ?_ (by assumption)) | omega)
    · omega
    · intro k h1 h2
      have h5 := F0 k h1; have h6 := F1 k h2
      simp only [World.size_setCell, World.size_alloc] at h5 h6
      omega
end Go.Proofs.YtemfcogdjmjplaaGreat

-- Copies of disks: the reference.
set_option linter.unusedSimpArgs false
set_option linter.unusedVariables false
namespace Go.Proofs.YtemfcogdjmjplaaGreat
open Go.RowKit Go.G8

end Go.Proofs.YtemfcogdjmjplaaGreat
namespace Go.G8
open Go.RowKit
theorem OwnNs.far {B n X i : Nat} {e e1 : TypeId} {w : World} {v : Value} {rows : List NRow} {ss : List Value} (h : OwnNs B e e1 n w v rows ss) (hX : X < B) (u : Value) : OwnNs B e e1 n (w.setCell ⟨X, i, none⟩ u) v rows ss := h.keep ((Chg.refl B w).setLow hX u)
end Go.G8
namespace Go.Proofs.YtemfcogdjmjplaaGreat
open Go.RowKit Go.G8
end Go.Proofs.YtemfcogdjmjplaaGreat

-- Copies of disks: the program.
set_option linter.unusedSimpArgs false
set_option linter.unusedVariables false
namespace Go.Proofs.YtemfcogdjmjplaaGreat
open Go.RowKit Go.G8

end Go.Proofs.YtemfcogdjmjplaaGreat
