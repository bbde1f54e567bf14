/- Contracts and plain laws: HelpB KSc AH AKM. -/
import Derived.Test.YtfhaooaajpopmaaGreatMb
import Derived.Test.YtfhaooaajpopmaaGreatMa
import Derived.Test.YtfhaooaajpopmaaGreatMe
import Derived.Test.YtfhaooaajpopmaaGreatMw
set_option linter.unusedSimpArgs false
set_option linter.unusedVariables false
set_option maxHeartbeats 8000000
set_option maxRecDepth 100000
namespace Go.G8
open Go.RowKit
theorem OwnI.boxS {B : Nat} {e : TypeId} {n : Nat} {w : World} {v : Value} {xs : List Int} (h : OwnI B e n w v xs) {X : Nat} {t : TypeId} {a : Array Value} (hX : Blk w X t a) (h1 : t ≠ e) (i : Nat) (u : Value) : OwnI B e n (w.setCell ⟨X, i, none⟩ u) v xs :=
 OwnI.upd' h ((Upd.refl w [X]).setCell (by simp) _) (fun k hk hf => by
  obtain ⟨cur, hb⟩ := h.typed hk
  simp at hf; subst hf
  exact h1 (hX.same hb))
theorem OwnI.drew9 {B : Nat} {e : TypeId} {n : Nat} {w : World} {v : Value} {xs : List Int} (h : OwnI B e n w v xs) : OwnI B e n w.drew v xs := Own.ext h (Ext.drew (Ext.refl _))
theorem OwnI.alloc9 {B : Nat} {e : TypeId} {n : Nat} {w : World} {v : Value} {xs : List Int} (h : OwnI B e n w v xs) (o : Obj) : OwnI B e n (w.alloc o) v xs := Own.ext h ((Ext.refl _).alloc _)
theorem ownS {B : Nat} {e : TypeId} {n : Nat} {w : World} {v : Value} {xs : List Int} (h : OwnI B e n w v xs := by ((repeat' (first | (with_reducible assumption) | (with_reducible refine OwnI.drew9 ?_) | (with_reducible refine OwnI.alloc9 ?_ _) | (with_reducible refine OwnI.boxS ?_ blkT dC _ _))); first | done | fail)) : OwnI B e n w v xs := h
end Go.G8
namespace Go.Proofs.YtfhaooaajpopmaaGreat
open Go.RowKit Go.G8
def RdSched (w : World) (v : Value) (s : DSched) : Prop := ∃ t2 : Value, v = .agg #[.int .i64 s.Id, .int .i64 s.Seq, .int .i64 s.View.Jobs.Index, .int .i64 s.View.Jobs.Time, .int .i64 s.View.Jobs.Holder, .int .i64 s.View.Jobs.Epoch, .int .i64 s.View.Jobs.Until, t2, .bool s.Busy, .int .i64 s.Op.Kind, .int .i64 s.Op.A, .int .i64 s.Op.B, .int .i64 s.Op.C, .int .i64 s.Op.D, .int .i64 s.Index] ∧ Ints 2 w t2 (dues s.View.Jobs.Open)
def OwSched (B : Nat) (w : World) (v : Value) (s : DSched) (F : List Nat) : Prop := ∃ t2 : Value, v = .agg #[.int .i64 s.Id, .int .i64 s.Seq, .int .i64 s.View.Jobs.Index, .int .i64 s.View.Jobs.Time, .int .i64 s.View.Jobs.Holder, .int .i64 s.View.Jobs.Epoch, .int .i64 s.View.Jobs.Until, t2, .bool s.Busy, .int .i64 s.Op.Kind, .int .i64 s.Op.A, .int .i64 s.Op.B, .int .i64 s.Op.C, .int .i64 s.Op.D, .int .i64 s.Index] ∧ OwnI B 72 2 w t2 (dues s.View.Jobs.Open) ∧ F = feet [t2]
def MkSched (B : Nat) (w : World) (v : Value) (s : DSched) (F : List Nat) (q : Int) : Prop := ∃ t2 : Value, v = .agg #[.int .i64 s.Id, .int .i64 s.Seq, .int .i64 s.View.Jobs.Index, .int .i64 s.View.Jobs.Time, .int .i64 s.View.Jobs.Holder, .int .i64 s.View.Jobs.Epoch, .int .i64 s.View.Jobs.Until, t2, .bool s.Busy, .int .i64 s.Op.Kind, .int .i64 s.Op.A, .int .i64 s.Op.B, .int .i64 s.Op.C, .int .i64 s.Op.D, .int .i64 s.Index] ∧ OwnI B 72 2 w t2 (run q (s.View.Jobs.Open.length * 2)) ∧ F = feet [t2]
section
variable {B B' : Nat} {w w' : World} {v : Value} {s s' : DSched} {F : List Nat} {q : Int}
theorem RdSched.shape (h : RdSched w v s) : ∃ a7 n7 k7, v = .agg #[.int .i64 s.Id, .int .i64 s.Seq, .int .i64 s.View.Jobs.Index, .int .i64 s.View.Jobs.Time, .int .i64 s.View.Jobs.Holder, .int .i64 s.View.Jobs.Epoch, .int .i64 s.View.Jobs.Until, .slice a7 n7 k7, .bool s.Busy, .int .i64 s.Op.Kind, .int .i64 s.Op.A, .int .i64 s.Op.B, .int .i64 s.Op.C, .int .i64 s.Op.D, .int .i64 s.Index] := by
 obtain ⟨t2, rfl, h2⟩ := h
 obtain ⟨a2, n2, k2, rfl⟩ := h2.shape
 exact ⟨a2, n2, k2, rfl⟩
theorem RdSched.ext (h : RdSched w v s) (x : Ext w w') : RdSched w' v s := let ⟨t2, e, h2⟩ := h; ⟨t2, e, h2.ext x⟩
theorem OwSched.rd (h : OwSched B w v s F) : RdSched w v s := let ⟨t2, e, h2, _⟩ := h; ⟨t2, e, h2.ints⟩
theorem OwSched.ext (h : OwSched B w v s F) (x : Ext w w') : OwSched B w' v s F := let ⟨t2, e, h2, hF⟩ := h; ⟨t2, e, Own.ext h2 x, hF⟩
theorem OwSched.keep (h : OwSched B w v s F) (x : Chg B w w') : OwSched B w' v s F := let ⟨t2, e, h2, hF⟩ := h; ⟨t2, e, h2.keep x, hF⟩
theorem OwSched.mono (h : OwSched B w v s F) (x : B' ≤ B) : OwSched B' w v s F := let ⟨t2, e, h2, hF⟩ := h; ⟨t2, e, h2.mono x, hF⟩
theorem OwSched.upd (h : OwSched B w v s F) {fs : List Nat} (x : Upd w w' fs) (hn : ∀ k, k ∈ F → k ∈ fs → False) : OwSched B w' v s F := by
 obtain ⟨t2, e, h2, rfl⟩ := h
 exact ⟨t2, e, OwnI.upd' h2 x hn, rfl⟩
theorem OwSched.box (h : OwSched B w v s F) {X : Nat} {a : Array Value} (hX : Blk w X 32 a) (i : Nat) (u : Value) : OwSched B (w.setCell ⟨X, i, none⟩ u) v s F := let ⟨t2, e, h2, hF⟩ := h; ⟨t2, e, h2.boxS hX dC i u, hF⟩
theorem OwSched.low (h : OwSched B w v s F) : ∀ k, k ∈ F → B ≤ k ∧ k < w.heap.size := by
 obtain ⟨t2, e, h2, rfl⟩ := h
 exact fun k hk => h2.foot k hk
theorem MkSched.ext (h : MkSched B w v s F q) (x : Ext w w') : MkSched B w' v s F q := let ⟨t2, e, h2, hF⟩ := h; ⟨t2, e, Own.ext h2 x, hF⟩
theorem MkSched.upd (h : MkSched B w v s F q) {fs : List Nat} (x : Upd w w' fs) (hn : ∀ k, k ∈ F → k ∈ fs → False) : MkSched B w' v s F q := by
 obtain ⟨t2, e, h2, rfl⟩ := h
 exact ⟨t2, e, OwnI.upd' h2 x hn, rfl⟩
end
theorem sSchedOk_k {w : World} {v : Value} {s : DSched} (h : RdSched w v s) : Calls Tryz.prog 8 #[v] w (RetV w (.bool (schedOkS s))) := by
 obtain ⟨t2, rfl, h2⟩ := h
 exact sSchedOk_c w _ _ _ _ _ _ _ t2 _ _ _ _ _ _ _ _ h2
theorem schedOk_kS {w : World} {v : Value} {s : DSched} (h : RdSched w v s) : Calls Tryz.prog 9 #[v] w (RetV w (.bool (schedOkS s))) := by
 obtain ⟨t2, rfl, h2⟩ := h
 exact schedOk_cS w _ _ _ _ _ _ _ t2 _ _ _ _ _ _ _ _ h2
theorem l21Copy_k {w : World} {v : Value} {s : DSched} (h : RdSched w v s) (hl : s.View.Jobs.Open.length ≤ 1048576) : Calls Tryz.prog 17 #[v] w (Ret w fun r w' => ∃ F, OwSched w.heap.size w' r s F) := by
 obtain ⟨t2, rfl, h2⟩ := h
 refine (l21Copy_c w _ _ _ _ _ _ _ t2 _ _ _ _ _ _ _ _ h2 hl).mono ?_
 rintro e w' ⟨_, rfl, hx, t, rfl, g⟩
 exact ⟨_, rfl, hx, _, t, rfl, g, rfl⟩
theorem copySched_k {w : World} {v : Value} {s : DSched} (h : RdSched w v s) (hl : s.View.Jobs.Open.length ≤ 1048576) : Calls Tryz.prog 18 #[v] w (Ret w fun r w' => ∃ F, OwSched w.heap.size w' r s F) := by
 obtain ⟨t2, rfl, h2⟩ := h
 refine (copySched_c w _ _ _ _ _ _ _ t2 _ _ _ _ _ _ _ _ h2 hl).mono ?_
 rintro e w' ⟨_, rfl, hx, t, rfl, g⟩
 exact ⟨_, rfl, hx, _, t, rfl, g, rfl⟩
theorem ack_ne {s : DSched} {a : DAck} (hb : schedOkS s = true) (h : ackOk a = false ∨ a.Client ≠ s.Id) : ackHeard s a = s := by
 have e1 : (!ackOk a || decide (a.Client ≠ s.Id)) = true := by
  rcases h with h | h
  ·
   rw [h]; rfl
  simp [h]
 unfold ackHeard
 rw [if_pos hb, if_pos e1]
theorem ack_hit {s : DSched} {a : DAck} (hb : schedOkS s = true) (ha : ackOk a = true) (hc : a.Client = s.Id) (h1 : s.Busy = true) (h2 : a.Seq = s.Seq) (h3 : a.Index ≠ 0) : ackHeard s a = ⟨s.Id, s.Seq, s.View, false, ⟨0, 0, 0, 0, 0⟩, a.Index⟩ := by
 have e1 : (!ackOk a || decide (a.Client ≠ s.Id)) = false := by simp [ha, hc]
 have e2 : (s.Busy && (decide (a.Seq = s.Seq) && decide (a.Index ≠ 0))) = true := by simp [h1, h2, h3]
 unfold ackHeard
 rw [if_pos hb, if_neg (by rw [e1]; simp), if_pos e2]
theorem ack_else {s : DSched} {a : DAck} (ha : ackOk a = true) (hc : a.Client = s.Id) (h : ¬ (s.Busy = true ∧ a.Seq = s.Seq ∧ a.Index ≠ 0)) : (!ackOk a || decide (a.Client ≠ s.Id)) = false ∧ (s.Busy && (decide (a.Seq = s.Seq) && decide (a.Index ≠ 0))) = false := by
 refine ⟨by simp [ha, hc], ?_⟩
 rw [Bool.eq_false_iff]
 intro h'
 simp only [Bool.and_eq_true, decide_eq_true_eq] at h'
 exact h ⟨h'.1, h'.2.1, h'.2.2⟩
theorem ack_last {s : DSched} {a : DAck} (hb : schedOkS s = true) (ha : ackOk a = true) (hc : a.Client = s.Id) (h : ¬ (s.Busy = true ∧ a.Seq = s.Seq ∧ a.Index ≠ 0)) (hl : s.Seq < a.Last) : ackHeard s a = ⟨s.Id, a.Last, s.View, false, ⟨0, 0, 0, 0, 0⟩, s.Index⟩ := by
 obtain ⟨e1, e2⟩ := ack_else ha hc h
 unfold ackHeard
 rw [if_pos hb, if_neg (by rw [e1]; simp), if_neg (by rw [e2]; simp), if_pos hl]
theorem ack_none {s : DSched} {a : DAck} (hb : schedOkS s = true) (ha : ackOk a = true) (hc : a.Client = s.Id) (h : ¬ (s.Busy = true ∧ a.Seq = s.Seq ∧ a.Index ≠ 0)) (hl : ¬ s.Seq < a.Last) : ackHeard s a = s := by
 obtain ⟨e1, e2⟩ := ack_else ha hc h
 unfold ackHeard
 rw [if_pos hb, if_neg (by rw [e1]; simp), if_neg (by rw [e2]; simp), if_neg hl]
theorem ackOk_index {a : DAck} (h : ackOk a = true) : 0 ≤ a.Index := by
 simp only [ackOk, Bool.and_eq_true] at h
 have h4 := h.2.2.2
 split at h4
 ·
  simp at h4; omega
 have := inb_true.1 h4; omega
end Go.Proofs.YtfhaooaajpopmaaGreat
namespace Go.G8
open Go.RowKit
open Go.Proofs.YtfhaooaajpopmaaGreat
theorem schedOkS_parts {s : DSched} (h : schedOkS s = true) : schedOk s.Id = true ∧ (0 ≤ s.Seq ∧ s.Seq ≤ 2000) ∧ jobsOk2 s.View.Jobs = true ∧ (0 ≤ s.Index ∧ s.Index ≤ 2000) ∧ (s.Busy = false → opZ s.Op = true) ∧ (s.Busy = true → 0 < s.Seq ∧ opOk s.Op = true ∧ (s.Op.Kind = 4 ∨ s.Op.Kind = 5)) := by
 simp only [schedOkS, Bool.and_eq_true] at h
 obtain ⟨h1, h2, h3, h4, h5⟩ := h
 refine ⟨h1, inb_true.1 h2, h3, inb_true.1 h4, fun hb => ?_, fun hb => ?_⟩
 ·
  rw [hb] at h5; exact h5
 rw [hb] at h5
 simp only [if_true, Bool.and_eq_true, Bool.or_eq_true, decide_eq_true_eq] at h5
 exact h5
theorem schedOkS_idle {i q x : Int} {v : DView} (h1 : schedOk i = true) (h2 : 0 ≤ q) (h3 : q ≤ 2000) (h4 : jobsOk2 v.Jobs = true) (h5 : 0 ≤ x) (h6 : x ≤ 2000) : schedOkS ⟨i, q, v, false, ⟨0, 0, 0, 0, 0⟩, x⟩ = true := by
 simp only [schedOkS, Bool.and_eq_true]
 exact ⟨h1, inb_of h2 h3, h4, inb_of h5 h6, by simp [opZ]⟩
theorem zSched_no : schedOkS zSched = false := by
 unfold zSched schedOkS
 have : schedOk 0 = false := by decide
 simp [this]
theorem ackOk_parts {a : DAck} (h : ackOk a = true) : 1 ≤ a.Seq ∧ a.Seq ≤ a.Last ∧ a.Last ≤ 2000 ∧ 0 ≤ a.Index ∧ a.Index ≤ 2000 := by
 simp only [ackOk, Bool.and_eq_true] at h
 obtain ⟨-, h2, h3, h4⟩ := h
 have h2 := inb_true.1 h2; have h3 := inb_true.1 h3
 split at h4
 ·
  simp at h4; omega
 have := inb_true.1 h4; omega
theorem ack_ways {s : DSched} {a : DAck} (hb : schedOkS s = true) (ha : ackOk a = true) (hc : a.Client = s.Id) : (ackHeard s a = s ∧ a.Last ≤ s.Seq) ∨ (ackHeard s a = ⟨s.Id, a.Last, s.View, false, ⟨0, 0, 0, 0, 0⟩, s.Index⟩ ∧ s.Seq < a.Last) ∨ (ackHeard s a = ⟨s.Id, s.Seq, s.View, false, ⟨0, 0, 0, 0, 0⟩, a.Index⟩ ∧ s.Busy = true) := by
 by_cases h : s.Busy = true ∧ a.Seq = s.Seq ∧ a.Index ≠ 0
 ·
  exact .inr (.inr ⟨ack_hit hb ha hc h.1 h.2.1 h.2.2, h.1⟩)
 by_cases hl : s.Seq < a.Last
 ·
  exact .inr (.inl ⟨ack_last hb ha hc h hl, hl⟩)
 exact .inl ⟨ack_none hb ha hc h hl, by omega⟩
theorem ack_ok {s : DSched} {a : DAck} (hb : schedOkS s = true) : schedOkS (ackHeard s a) = true := by
 cases ha : ackOk a
 ·
  rw [ack_ne hb (.inl ha)]; exact hb
 by_cases hc : a.Client = s.Id
 ·
  obtain ⟨p1, p2, p3, p4, p5, p6⟩ := schedOkS_parts hb
  obtain ⟨q1, q2, q3, q4, q5⟩ := ackOk_parts ha
  rcases ack_ways hb ha hc with ⟨e, -⟩ | ⟨e, h⟩ | ⟨e, -⟩
  ·
   rw [e]; exact hb
  ·
   rw [e]; exact schedOkS_idle p1 oM q3 p3 p4.1 p4.2
  rw [e]; exact schedOkS_idle p1 p2.1 p2.2 p3 q4 q5
 rw [ack_ne hb (.inr hc)]; exact hb
theorem ack_low {s : DSched} {a : DAck} (hb : schedOkS s = true) (ha : ackOk a = true) (hc : a.Client = s.Id) : s.Seq ≤ (ackHeard s a).Seq := by
 rcases ack_ways hb ha hc with ⟨e, h⟩ | ⟨e, h⟩ | ⟨e, -⟩ <;> rw [e]
 ·
  exact Int.le_refl _
 ·
  show s.Seq ≤ a.Last; omega
 exact Int.le_refl _
theorem ack_fallen {s : DSched} {a : DAck} (hb : schedOkS s = true) (ha : ackOk a = true) (hc : a.Client = s.Id) : (ackHeard (fallenSched s) a).Seq = a.Last ∧ (ackHeard (fallenSched s) a).Busy = false := by
 obtain ⟨p1, p2, p3, p4, p5, p6⟩ := schedOkS_parts hb
 obtain ⟨q1, q2, q3, q4, q5⟩ := ackOk_parts ha
 have e : fallenSched s = ⟨s.Id, 0, ⟨⟨0, 0, 0, 0, 0, []⟩⟩, false, ⟨0, 0, 0, 0, 0⟩, 0⟩ := by
  unfold fallenSched newSched
  rw [if_pos hb, if_pos p1]
 have hj : jobsOk2 ⟨0, 0, 0, 0, 0, []⟩ = true := by
  simp only [jobsOk2, Bool.and_eq_true]
  refine ⟨by decide, by decide, by decide, by decide, by decide, openOk_iff.2 ⟨by simp, fun i hi => by simp at hi⟩⟩
 have hk : schedOkS (fallenSched s) = true := by
  rw [e]; exact schedOkS_idle p1 oM oM hj oM oM
 have hc2 : a.Client = (fallenSched s).Id := by rw [e]; exact hc
 rcases ack_ways hk ha hc2 with ⟨e2, h⟩ | ⟨e2, h⟩ | ⟨e2, h⟩
 ·
  rw [e] at h; simp only [] at h; omega
 ·
  rw [e2]; exact ⟨rfl, rfl⟩
 rw [e] at h; simp at h
end Go.G8
