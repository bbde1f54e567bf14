/- Contracts and plain laws: KSc DE. -/
import Derived.Test.YthihnangjghloaaGw
import Derived.Test.YthihnangjghloaaGa
import Derived.Test.YthihnangjghloaaGe
import Derived.Test.YthihnangjghloaaHw
set_option linter.unusedSimpArgs false
set_option linter.unusedVariables false
-- Schedulers as one thing: read, owned, marked.
set_option linter.unusedSimpArgs false
set_option linter.unusedVariables false
namespace Go.Proofs.Ythihnangjghloaa
open Go.RowKit Go.G8

end Go.Proofs.Ythihnangjghloaa
namespace Go.G8
open Go.RowKit
theorem OwnI.boxS {B : Nat} {e : TypeId} {n : Nat} {w : World} {v : Value} {xs : List Int} (h : OwnI B e n w v xs) {X : Nat} {t : TypeId} {a : Array Value} (hX : Blk w X t a) (h1 : t ≠ e) (i : Nat) (u : Value) : OwnI B e n (w.setCell ⟨X, i, none⟩ u) v xs :=
 OwnI.upd' h ((Upd.refl w [X]).setCell (by simp) _) (fun k hk hf => by
  obtain ⟨cur, hb⟩ := h.typed hk
  simp at hf; subst hf
  exact h1 (hX.same hb))
theorem OwnI.drew9 {B : Nat} {e : TypeId} {n : Nat} {w : World} {v : Value} {xs : List Int} (h : OwnI B e n w v xs) : OwnI B e n w.drew v xs := Own.ext h (Ext.drew (Ext.refl _))
theorem OwnI.alloc9 {B : Nat} {e : TypeId} {n : Nat} {w : World} {v : Value} {xs : List Int} (h : OwnI B e n w v xs) (o : Obj) : OwnI B e n (w.alloc o) v xs := Own.ext h ((Ext.refl _).alloc _)
theorem ownS {B : Nat} {e : TypeId} {n : Nat} {w : World} {v : Value} {xs : List Int} (h : OwnI B e n w v xs := by ((repeat' (first | (with_reducible assumption) | (with_reducible refine OwnI.drew9 ?_) | (with_reducible refine OwnI.alloc9 ?_ _) | (with_reducible refine OwnI.boxS ?_ blkT (by decide) _ _))); first | done | fail)) : OwnI B e n w v xs := h
end Go.G8
namespace Go.Proofs.Ythihnangjghloaa
open Go.RowKit Go.G8
def RdSched (w : World) (v : Value) (s : DSched) : Prop := ∃ t2 : Value, v = .agg #[.int .i64 s.Id, .int .i64 s.Seq, .int .i64 s.View.Jobs.Index, .int .i64 s.View.Jobs.Time, .int .i64 s.View.Jobs.Holder, .int .i64 s.View.Jobs.Epoch, .int .i64 s.View.Jobs.Until, t2, .bool s.Busy, .int .i64 s.Op.Kind, .int .i64 s.Op.A, .int .i64 s.Op.B, .int .i64 s.Op.C, .int .i64 s.Op.D, .int .i64 s.Index] ∧ Ints 2 w t2 (dues s.View.Jobs.Open)
def OwSched (B : Nat) (w : World) (v : Value) (s : DSched) (F : List Nat) : Prop := ∃ t2 : Value, v = .agg #[.int .i64 s.Id, .int .i64 s.Seq, .int .i64 s.View.Jobs.Index, .int .i64 s.View.Jobs.Time, .int .i64 s.View.Jobs.Holder, .int .i64 s.View.Jobs.Epoch, .int .i64 s.View.Jobs.Until, t2, .bool s.Busy, .int .i64 s.Op.Kind, .int .i64 s.Op.A, .int .i64 s.Op.B, .int .i64 s.Op.C, .int .i64 s.Op.D, .int .i64 s.Index] ∧ OwnI B 132 2 w t2 (dues s.View.Jobs.Open) ∧ F = feet [t2]
def numSched (s : DSched) : Nat := s.View.Jobs.Open.length * 2
def MkSched (B : Nat) (w : World) (v : Value) (s : DSched) (F : List Nat) (q : Int) : Prop := ∃ t2 : Value, v = .agg #[.int .i64 s.Id, .int .i64 s.Seq, .int .i64 s.View.Jobs.Index, .int .i64 s.View.Jobs.Time, .int .i64 s.View.Jobs.Holder, .int .i64 s.View.Jobs.Epoch, .int .i64 s.View.Jobs.Until, t2, .bool s.Busy, .int .i64 s.Op.Kind, .int .i64 s.Op.A, .int .i64 s.Op.B, .int .i64 s.Op.C, .int .i64 s.Op.D, .int .i64 s.Index] ∧ OwnI B 132 2 w t2 (run q (s.View.Jobs.Open.length * 2)) ∧ F = feet [t2]
section
variable {B B' : Nat} {w w' : World} {v : Value} {s s' : DSched} {F : List Nat} {q : Int}
theorem RdSched.shape (h : RdSched w v s) : ∃ a7 n7 k7, v = .agg #[.int .i64 s.Id, .int .i64 s.Seq, .int .i64 s.View.Jobs.Index, .int .i64 s.View.Jobs.Time, .int .i64 s.View.Jobs.Holder, .int .i64 s.View.Jobs.Epoch, .int .i64 s.View.Jobs.Until, .slice a7 n7 k7, .bool s.Busy, .int .i64 s.Op.Kind, .int .i64 s.Op.A, .int .i64 s.Op.B, .int .i64 s.Op.C, .int .i64 s.Op.D, .int .i64 s.Index] := by
 obtain ⟨t2, rfl, h2⟩ := h
 obtain ⟨a2, n2, k2, rfl⟩ := h2.shape
 exact ⟨a2, n2, k2, rfl⟩
theorem RdSched.ext (h : RdSched w v s) (x : Ext w w') : RdSched w' v s := let ⟨t2, e, h2⟩ := h; ⟨t2, e, h2.ext x⟩
theorem OwSched.rd (h : OwSched B w v s F) : RdSched w v s := let ⟨t2, e, h2, _⟩ := h; ⟨t2, e, h2.ints⟩
theorem OwSched.ext (h : OwSched B w v s F) (x : Ext w w') : OwSched B w' v s F := let ⟨t2, e, h2, hF⟩ := h; ⟨t2, e, Own.ext h2 x, hF⟩
theorem OwSched.keep (h : OwSched B w v s F) (x : Chg B w w') : OwSched B w' v s F := let ⟨t2, e, h2, hF⟩ := h; ⟨t2, e, h2.keep x, hF⟩
theorem OwSched.mono (h : OwSched B w v s F) (x : B' ≤ B) : OwSched B' w v s F := let ⟨t2, e, h2, hF⟩ := h; ⟨t2, e, h2.mono x, hF⟩
theorem OwSched.upd (h : OwSched B w v s F) {fs : List Nat} (x : Upd w w' fs) (hn : ∀ k, k ∈ F → k ∈ fs → False) : OwSched B w' v s F := by
 obtain ⟨t2, e, h2, rfl⟩ := h
 exact ⟨t2, e, OwnI.upd' h2 x hn, rfl⟩
theorem OwSched.box (h : OwSched B w v s F) {X : Nat} {a : Array Value} (hX : Blk w X 65 a) (i : Nat) (u : Value) : OwSched B (w.setCell ⟨X, i, none⟩ u) v s F := let ⟨t2, e, h2, hF⟩ := h; ⟨t2, e, h2.boxS hX (by decide) i u, hF⟩
theorem OwSched.low (h : OwSched B w v s F) : ∀ k, k ∈ F → B ≤ k ∧ k < w.heap.size := by
 obtain ⟨t2, e, h2, rfl⟩ := h
 exact fun k hk => h2.foot k hk
theorem MkSched.ext (h : MkSched B w v s F q) (x : Ext w w') : MkSched B w' v s F q := let ⟨t2, e, h2, hF⟩ := h; ⟨t2, e, Own.ext h2 x, hF⟩
theorem MkSched.upd (h : MkSched B w v s F q) {fs : List Nat} (x : Upd w w' fs) (hn : ∀ k, k ∈ F → k ∈ fs → False) : MkSched B w' v s F q := by
 obtain ⟨t2, e, h2, rfl⟩ := h
 exact ⟨t2, e, OwnI.upd' h2 x hn, rfl⟩
theorem numSched_le (q2 : s.View.Jobs.Open.length ≤ 1048576) : numSched s ≤ 100000000 := by unfold numSched; omega
theorem to_Sched (h : RdSched w v s) (q2 : s.View.Jobs.Open.length ≤ 1048576) : Calls Try.prog 19 #[v] w (Ret w fun v' w' => ∃ F, OwSched w.heap.size w' v' s F) := by
 obtain ⟨t2, rfl, h2⟩ := h
 refine (toSched_c w _ _ _ _ _ _ _ t2 _ _ (length_dues _) _ _ _ _ _ _ _ h2 q2).mono ?_
 rintro e w' ⟨_, rfl, hx, u2, rfl, g2⟩
 exact ⟨_, rfl, hx, _, u2, rfl, g2, rfl⟩
theorem sz_Sched (h : RdSched w v s) {left : Int} (h0 : 0 ≤ left) (h1 : left ≤ 1048576) : Calls Try.prog 17 #[v, .int .i64 left] w (Ret w fun v' _ => SzR left (s.View.Jobs.Open.length) v') := by
 obtain ⟨t2, rfl, h2⟩ := h
 exact szSched_c w _ _ _ _ _ _ _ t2 _ _ (length_dues _) _ _ _ _ _ _ _ _ h2 h0 h1
theorem eq_Sched {u : Value} (h : RdSched w v s) (k : RdSched w u s) : Calls Try.prog 21 #[v, u] w (RetV w (.bool true)) := by
 obtain ⟨t2, rfl, h2⟩ := h
 obtain ⟨u2, rfl, k2⟩ := k
 exact eqSched_c w _ _ _ _ _ _ _ t2 u2 _ _ _ _ _ _ _ _ h2 k2
theorem mark_Sched (h : OwSched B w v s F) (hq0 : 0 ≤ q) (hq1 : q + (numSched s : Nat) ≤ 4611686018427387904) : Calls Try.prog 22 #[v, .int .i64 q] w (RetM w F (.int .i64 (q + (numSched s : Nat))) fun w' => MkSched B w' v s F q) := by
 obtain ⟨t2, rfl, h2, rfl⟩ := h
 unfold numSched at hq1 ⊢
 refine (markSched_c w B _ _ _ _ _ _ _ t2 _ _ (length_dues _) _ _ _ _ _ _ _ q h2 hq0 (by omega)).mono ?_
 rintro e w' ⟨rfl, hx, g2⟩
 exact ⟨rfl, hx, t2, rfl, g2, rfl⟩
theorem held_Sched (h : MkSched B w v s F q) (hq0 : 0 ≤ q) (hq1 : q + (numSched s : Nat) ≤ 4611686018427387904) : Calls Try.prog 23 #[v, .int .i64 q] w (RetV w (.int .i64 (q + (numSched s : Nat)))) := by
 obtain ⟨t2, rfl, h2, rfl⟩ := h
 unfold numSched at hq1 ⊢
 exact heldSched_c w _ _ _ _ _ _ _ t2 _ _ _ _ _ _ _ _ q h2.ints hq0 (by omega)
end
theorem sSchedOk_k {w : World} {v : Value} {s : DSched} (h : RdSched w v s) : Calls Try.prog 49 #[v] w (RetV w (.bool (schedOkS s))) := by
 obtain ⟨t2, rfl, h2⟩ := h
 exact sSchedOk_c w _ _ _ _ _ _ _ t2 _ _ _ _ _ _ _ _ h2
theorem schedOk_kS {w : World} {v : Value} {s : DSched} (h : RdSched w v s) : Calls Try.prog 58 #[v] w (RetV w (.bool (schedOkS s))) := by
 obtain ⟨t2, rfl, h2⟩ := h
 exact schedOk_cS w _ _ _ _ _ _ _ t2 _ _ _ _ _ _ _ _ h2
theorem l21Copy_k {w : World} {v : Value} {s : DSched} (h : RdSched w v s) (hl : s.View.Jobs.Open.length ≤ 1048576) : Calls Try.prog 50 #[v] w (Ret w fun r w' => ∃ F, OwSched w.heap.size w' r s F) := by
 obtain ⟨t2, rfl, h2⟩ := h
 refine (l21Copy_c w _ _ _ _ _ _ _ t2 _ _ _ _ _ _ _ _ h2 hl).mono ?_
 rintro e w' ⟨_, rfl, hx, t, rfl, g⟩
 exact ⟨_, rfl, hx, _, t, rfl, g, rfl⟩
theorem copySched_k {w : World} {v : Value} {s : DSched} (h : RdSched w v s) (hl : s.View.Jobs.Open.length ≤ 1048576) : Calls Try.prog 59 #[v] w (Ret w fun r w' => ∃ F, OwSched w.heap.size w' r s F) := by
 obtain ⟨t2, rfl, h2⟩ := h
 refine (copySched_c w _ _ _ _ _ _ _ t2 _ _ _ _ _ _ _ _ h2 hl).mono ?_
 rintro e w' ⟨_, rfl, hx, t, rfl, g⟩
 exact ⟨_, rfl, hx, _, t, rfl, g, rfl⟩

end Go.Proofs.Ythihnangjghloaa

-- Decided, without the program.
set_option linter.unusedSimpArgs false
set_option linter.unusedVariables false
namespace Go.Proofs.Ythihnangjghloaa
open Go.RowKit Go.G8

theorem dec_bad {s : DSched} {now : Int} (hb : schedOkS s = false) : decided s now = zSched := by
 unfold decided; rw [hb]; rfl
theorem dec_same {s : DSched} {now : Int} (hb : schedOkS s = true) (h : nextOp s now = none) : decided s now = s := by
 unfold decided; rw [if_pos hb, h]
theorem dec_some {s : DSched} {now : Int} {o : DOp} (hb : schedOkS s = true) (h : nextOp s now = some o) : decided s now = ⟨s.Id, s.Seq + 1, s.View, true, o, s.Index⟩ := by
 unfold decided; rw [if_pos hb, h]
theorem no_head {s : DSched} {now : Int} (h : timeOk now = false ∨ s.Busy = true ∨ s.Seq = 2000 ∨ staleIn s.View s.Index = true) : nextOp s now = none := by
 have e1 : (!timeOk now || (s.Busy || (decide (s.Seq = 2000) || staleIn s.View s.Index))) = true := by
  rcases h with h | h | h | h <;> simp [h]
 unfold nextOp
 rw [if_pos e1]
theorem no_rest {s : DSched} {now : Int} (h1 : timeOk now = true) (h2 : s.Busy = false) (h3 : s.Seq ≠ 2000) (h4 : staleIn s.View s.Index = false) : nextOp s now = if holdsIn s.View s.Id now then (if nfOk s.View now then some ⟨4, nfId s.View now, s.View.Jobs.Epoch, 0, 0⟩ else none) else if freeIn s.View now then some ⟨5, 20, 0, 0, 0⟩ else none := by
 have e1 : (!timeOk now || (s.Busy || (decide (s.Seq = 2000) || staleIn s.View s.Index))) = false := by simp [h1, h2, h3, h4]
 unfold nextOp
 rw [if_neg (by rw [e1]; simp)]
theorem no_fire {s : DSched} {now : Int} (h1 : timeOk now = true) (h2 : s.Busy = false) (h3 : s.Seq ≠ 2000) (h4 : staleIn s.View s.Index = false) (h5 : holdsIn s.View s.Id now = true) (h6 : nfOk s.View now = true) : nextOp s now = some ⟨4, nfId s.View now, s.View.Jobs.Epoch, 0, 0⟩ := by
 rw [no_rest h1 h2 h3 h4, if_pos h5, if_pos h6]
theorem no_hold {s : DSched} {now : Int} (h1 : timeOk now = true) (h2 : s.Busy = false) (h3 : s.Seq ≠ 2000) (h4 : staleIn s.View s.Index = false) (h5 : holdsIn s.View s.Id now = true) (h6 : nfOk s.View now = false) : nextOp s now = none := by
 rw [no_rest h1 h2 h3 h4, if_pos h5, if_neg (by rw [h6]; simp)]
theorem no_lease {s : DSched} {now : Int} (h1 : timeOk now = true) (h2 : s.Busy = false) (h3 : s.Seq ≠ 2000) (h4 : staleIn s.View s.Index = false) (h5 : holdsIn s.View s.Id now = false) (h6 : freeIn s.View now = true) : nextOp s now = some ⟨5, 20, 0, 0, 0⟩ := by
 rw [no_rest h1 h2 h3 h4, if_neg (by rw [h5]; simp), if_pos h6]
theorem no_wait {s : DSched} {now : Int} (h1 : timeOk now = true) (h2 : s.Busy = false) (h3 : s.Seq ≠ 2000) (h4 : staleIn s.View s.Index = false) (h5 : holdsIn s.View s.Id now = false) (h6 : freeIn s.View now = false) : nextOp s now = none := by
 rw [no_rest h1 h2 h3 h4, if_neg (by rw [h5]; simp), if_neg (by rw [h6]; simp)]
theorem holds_free {s : DSched} {now : Int} (hb : schedOkS s = true) (h : holdsIn s.View s.Id now = true) : freeIn s.View now = false := by
 have h1 : schedOk s.Id = true := by
  simp only [schedOkS, Bool.and_eq_true] at hb
  exact hb.1
 have h2 : s.Id ≠ 0 := by
  intro h0
  rw [h0] at h1
  revert h1
  decide
 simp only [holdsIn, Bool.and_eq_true, decide_eq_true_eq] at h
 obtain ⟨g1, -, g2, g3⟩ := h
 unfold freeIn
 have e1 : decide (s.View.Jobs.Holder = 0) = false := by simp; omega
 have e2 : decide (s.View.Jobs.Until ≤ guessOf s.View now) = false := by simp; omega
 rw [e1, e2]; simp
theorem RdSched.view {w : World} {s : DSched} {c0 c1 c2 c3 c4 c5 c6 t c8 c9 c10 c11 c12 c13 c14 : Value} (h : RdSched w (.agg #[c0, c1, c2, c3, c4, c5, c6, t, c8, c9, c10, c11, c12, c13, c14]) s) : Ints 2 w t (dues s.View.Jobs.Open) := by
 obtain ⟨t2, e, h2⟩ := h
 injection e with e
 simp only [Array.mk.injEq, List.cons.injEq, and_true] at e
 obtain ⟨-, -, -, -, -, -, -, rfl, -⟩ := e
 exact h2
theorem nDe (s : DSched) (now : Int) : numSched (decided s now) ≤ 100000000 := by
 have := decided_len s now
 unfold numSched; omega
theorem decV_none {s : DSched} {now : Int} (h : nextOp s now = none) : decV s now = .iface 159 (.agg #[]) := by unfold decV; rw [h]
theorem decV_some {s : DSched} {now : Int} {o : DOp} (h : nextOp s now = some o) : decV s now = if o.Kind = 4 then .iface 110 (.agg #[.int .i64 o.A, .int .i64 o.B]) else .iface 112 (.agg #[]) := by unfold decV; rw [h]

end Go.Proofs.Ythihnangjghloaa
