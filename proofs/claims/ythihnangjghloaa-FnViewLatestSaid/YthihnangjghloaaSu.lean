/- Contracts and plain laws: KD Q2 Q3. -/
import Derived.Test.YthihnangjghloaaSa
import Derived.Test.YthihnangjghloaaSb
import Derived.Test.YthihnangjghloaaSe
set_option linter.unusedSimpArgs false
set_option linter.unusedVariables false
-- Disks as one thing: read, owned, marked.
set_option linter.unusedSimpArgs false
set_option linter.unusedVariables false
namespace Go.Proofs.Ythihnangjghloaa
open Go.RowKit Go.G8

def RdDisk (w : World) (v : Value) (d : DDisk) : Prop := ∃ t0 t1 : Value, v = .agg #[t0, t1] ∧ Nest 0 w t0 (nestInt64S d.Kept) ∧ Nest 1 w t1 (nestWrite d.Wait)
def OwDisk (B : Nat) (w : World) (v : Value) (d : DDisk) (F : List Nat) : Prop := ∃ t0 t1 : Value, ∃ ss0 ss1 : List Value, v = .agg #[t0, t1] ∧ OwnNs B 86 2 0 w t0 (nestInt64S d.Kept) ss0 ∧ OwnNs B 202 2 1 w t1 (nestWrite d.Wait) ss1 ∧ (∀ k, k ∈ feet (t0 :: ss0) → k ∈ feet (t1 :: ss1) → False) ∧ F = feet (t0 :: ss0) ++ feet (t1 :: ss1)
def MkDisk (B : Nat) (w : World) (v : Value) (d : DDisk) (F : List Nat) (q : Int) : Prop := ∃ t0 t1 : Value, ∃ ss0 ss1 : List Value, v = .agg #[t0, t1] ∧ OwnNs B 86 2 0 w t0 (marks 0 q (nestInt64S d.Kept)) ss0 ∧ OwnNs B 202 2 1 w t1 (marks 1 (q + (tot 0 (nestInt64S d.Kept) : Nat)) (nestWrite d.Wait)) ss1 ∧ F = feet (t0 :: ss0) ++ feet (t1 :: ss1)
section
variable {B B' : Nat} {w w' : World} {v : Value} {d d' : DDisk} {F : List Nat} {q : Int}
theorem IsDisk.ow (h : IsDisk B w v d) : ∃ F, OwDisk B w v d F := let ⟨t0, t1, ss0, ss1, e, h0, h1, hd⟩ := h; ⟨_, t0, t1, ss0, ss1, e, h0, h1, hd, rfl⟩
theorem RdDisk.shape (h : RdDisk w v d) : ∃ a0 n0 k0 a1 n1 k1, v = .agg #[.slice a0 n0 k0, .slice a1 n1 k1] := by
 obtain ⟨t0, t1, rfl, h0, h1⟩ := h
 obtain ⟨a0, n0, k0, rfl⟩ := h0.shape
 obtain ⟨a1, n1, k1, rfl⟩ := h1.shape
 exact ⟨a0, n0, k0, a1, n1, k1, rfl⟩
theorem RdDisk.ext (h : RdDisk w v d) (x : Ext w w') : RdDisk w' v d := let ⟨t0, t1, e, h0, h1⟩ := h; ⟨t0, t1, e, h0.ext x, h1.ext x⟩
theorem RdDisk.get {a0 n0 k0 a1 n1 k1} (h : RdDisk w (.agg #[.slice a0 n0 k0, .slice a1 n1 k1]) d) : Nest 0 w (.slice a0 n0 k0) (nestInt64S d.Kept) ∧ Nest 1 w (.slice a1 n1 k1) (nestWrite d.Wait) := by
 obtain ⟨t0, t1, e, h0, h1⟩ := h
 injection e with e; injection e with e; injection e with e1 e; injection e with e2 _
 subst e1; subst e2
 exact ⟨h0, h1⟩
theorem OwDisk.rd (h : OwDisk B w v d F) : RdDisk w v d := let ⟨t0, t1, _, _, e, h0, h1, _, _⟩ := h; ⟨t0, t1, e, h0.nest, h1.nest⟩
theorem OwDisk.ext (h : OwDisk B w v d F) (x : Ext w w') : OwDisk B w' v d F := let ⟨t0, t1, s0, s1, e, h0, h1, hd, hF⟩ := h; ⟨t0, t1, s0, s1, e, h0.ext x, h1.ext x, hd, hF⟩
theorem OwDisk.upd (h : OwDisk B w v d F) {fs : List Nat} (x : Upd w w' fs) (hn : ∀ k, k ∈ F → k ∈ fs → False) : OwDisk B w' v d F := by
 obtain ⟨t0, t1, s0, s1, e, h0, h1, hd, rfl⟩ := h
 exact ⟨t0, t1, s0, s1, e, h0.upd x (fun k h => hn k (List.mem_append_left _ h)), h1.upd x (fun k h => hn k (List.mem_append_right _ h)), hd, rfl⟩
theorem OwDisk.low (h : OwDisk B w v d F) : ∀ k, k ∈ F → B ≤ k ∧ k < w.heap.size := by
 obtain ⟨t0, t1, s0, s1, e, h0, h1, hd, rfl⟩ := h
 intro k hk
 rcases List.mem_append.1 hk with h | h
 ·
  exact h0.foot k h
 ·
  exact h1.foot k h
theorem IsDisk.rd (h : IsDisk B w v d) : RdDisk w v d := let ⟨t0, t1, _, _, e, h0, h1, _⟩ := h; ⟨t0, t1, e, h0.nest, h1.nest⟩
theorem OwDisk.is (h : OwDisk B w v d F) : IsDisk B w v d := let ⟨t0, t1, s0, s1, e, h0, h1, hd, _⟩ := h; ⟨t0, t1, s0, s1, e, h0, h1, hd⟩
theorem MkDisk.ext (h : MkDisk B w v d F q) (x : Ext w w') : MkDisk B w' v d F q := let ⟨t0, t1, s0, s1, e, h0, h1, hF⟩ := h; ⟨t0, t1, s0, s1, e, h0.ext x, h1.ext x, hF⟩
end

end Go.Proofs.Ythihnangjghloaa

-- Copies of disks: the reference.
set_option linter.unusedSimpArgs false
set_option linter.unusedVariables false
namespace Go.Proofs.Ythihnangjghloaa
open Go.RowKit Go.G8

end Go.Proofs.Ythihnangjghloaa
namespace Go.G8
open Go.RowKit
theorem OwnNs.far {B n X i : Nat} {e e1 : TypeId} {w : World} {v : Value} {rows : List NRow} {ss : List Value} (h : OwnNs B e e1 n w v rows ss) (hX : X < B) (u : Value) : OwnNs B e e1 n (w.setCell ⟨X, i, none⟩ u) v rows ss := h.keep ((Chg.refl B w).setLow hX u)
end Go.G8
namespace Go.Proofs.Ythihnangjghloaa
open Go.RowKit Go.G8

end Go.Proofs.Ythihnangjghloaa

-- Copies of disks: the program.
set_option linter.unusedSimpArgs false
set_option linter.unusedVariables false
namespace Go.Proofs.Ythihnangjghloaa
open Go.RowKit Go.G8


end Go.Proofs.Ythihnangjghloaa
