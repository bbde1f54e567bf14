/- Contracts and plain laws: Ef Rd1 SP SJ SJ2 Gr Nx Fi Gt Eo ApM PJ JA Fi2 JF Gt2. -/
import Derived.Test.YtemfcogdjmjplaaGreatGd
import Derived.Test.YtemfcogdjmjplaaGreatGa
import Derived.Test.YtemfcogdjmjplaaGreatGb
import Derived.Test.YtemfcogdjmjplaaGreatGf
import Derived.Test.YtemfcogdjmjplaaGreatGe
-- Changes of pairs, jobs, leases and states: the plain law.
set_option linter.unusedSimpArgs false
set_option linter.unusedVariables false
namespace Go.G8
open Go.RowKit Go.Proofs.YtemfcogdjmjplaaGreat

/-- A list in the order of its keys. -/
def Srt {α : Type} (key : α → Int) (l : List α) : Prop := l.Pairwise (fun a b => key a < key b)
theorem srt_of_adj {α : Type} {key : α → Int} {l : List α} (h : ∀ i d e, l[i + 1]? = some d → l[i]? = some e → key e < key d) : Srt key l := by
  have h1 : ∀ n i d e, l[i + n + 1]? = some d → l[i]? = some e → key e < key d := by
    intro n
    induction n with
    | zero => intro i d e hd he; exact h i d e hd he
    | succ n ih =>
      intro i d e hd he
      have hlt : i + n + 1 < l.length := by
        have := (List.getElem?_eq_some_iff.1 hd).1
        omega
      have hm : l[i + n + 1]? = some l[i + n + 1] := List.getElem?_eq_getElem hlt
      have h2 := ih i _ e hm he
      have h3 := h (i + n + 1) d _ hd hm
      omega
  unfold Srt
  rw [List.pairwise_iff_getElem]
  intro i j hi hj hij
  exact h1 (j - i - 1) i l[j] l[i] (by rw [show i + (j - i - 1) + 1 = j by omega]; exact List.getElem?_eq_getElem hj) (List.getElem?_eq_getElem hi)
def low {α : Type} (key : α → Int) (x : Int) (l : List α) : List α := l.filter (fun a => decide (key a < x))
def at_ {α : Type} (key : α → Int) (x : Int) (l : List α) : Option α := l.find? (fun a => decide (key a = x))
section
variable {α : Type} {key : α → Int} {l : List α} {x : Int} {k : Nat}
end
theorem jobsOk_srt {l : List DJob} (h : jobsOk l = true) : l.length ≤ 8 ∧ Srt DJob.Id l ∧ (∀ p, p ∈ l → jobOk p = true) ∧ l.Pairwise (fun a b => 0 < b.Fired → a.Fired ≠ b.Fired) := by
  obtain ⟨h0, h⟩ := jobsOk_iff.1 h
  refine ⟨h0, srt_of_adj fun i d e hd he => ?_, fun p hp => ?_, ?_⟩
  · have hlt := (List.getElem?_eq_some_iff.1 hd).1
    exact (h (i + 1) hlt d hd).2.1 e (by omega) (by simpa using he)
  · obtain ⟨i, hi⟩ := List.mem_iff_getElem?.1 hp
    exact (h i (List.getElem?_eq_some_iff.1 hi).1 p hi).1
  · rw [List.pairwise_iff_getElem]
    intro i j hi hj hij hf
    exact (h j hj _ (List.getElem?_eq_getElem hj)).2.2 hf i _ hij (List.getElem?_eq_getElem hi)
-- pairs
-- jobs
-- leases
def holdsAt (l : DLease) (who epoch time : Int) : Bool := leaseOk l && (decide (l.Holder ≠ 0) && (decide (l.Holder = who) && (decide (l.Epoch = epoch) && (timeOk time && decide (time < l.Until)))))
-- states
def fires (s : DState) (e : DEntry) : Bool := decide (e.Op.Kind = 4) && (match at_ DJob.Id e.Op.A s.Jobs with | some j => decide (j.Fired = 0) && (decide (j.Due ≤ e.Time) && holdsAt s.Lease e.Client e.Op.B e.Time) | none => false)
end Go.G8

-- Pairs read by key.
set_option linter.unusedSimpArgs false
set_option linter.unusedVariables false
namespace Go.Proofs.YtemfcogdjmjplaaGreat
open Go.RowKit Go.G8

end Go.Proofs.YtemfcogdjmjplaaGreat
namespace Go.G8
open Go.RowKit
end Go.G8
namespace Go.Proofs.YtemfcogdjmjplaaGreat
open Go.RowKit Go.G8
end Go.Proofs.YtemfcogdjmjplaaGreat

-- The reference's operations on pairs.
set_option linter.unusedSimpArgs false
set_option linter.unusedVariables false
namespace Go.Proofs.YtemfcogdjmjplaaGreat
open Go.RowKit Go.G8

end Go.Proofs.YtemfcogdjmjplaaGreat
namespace Go.G8
open Go.RowKit
theorem OwnI.lit0 (w : World) (e : TypeId) (n : Nat) : OwnI w.heap.size e n (w.alloc (.cells #[] e)) (.slice (some ⟨w.heap.size, 0, none⟩) 0 0) [] :=
  Own.of_blk (cap := 0) (Blk.new w e #[]) (Nat.le_refl _) (by simp) (by simp) (Nat.le_refl _) (by decide) (fun j hj => by rw [Nat.zero_mul] at hj; omega)
theorem Sl.oneAt (w : World) (cur : Array Value) (t : TypeId) (n b : Nat) (hb : b = w.heap.size) (hn : cur.size = n) : Sl n (w.alloc (.cells cur t)) (.slice (some ⟨b, 0, none⟩) 1 1) cur.toList := by
  subst hb; exact Sl.one w cur t n hn
theorem flJob_one (l : List DJob) (d : DJob) : flJob (l ++ [d]) = flJob l ++ [d.Id, d.Due, d.Key, d.Value, d.Fired] := by simp [flJob, DJob.ints]
end Go.G8
namespace Go.Proofs.YtemfcogdjmjplaaGreat
open Go.RowKit Go.G8
end Go.Proofs.YtemfcogdjmjplaaGreat

-- The reference's operations on jobs.
set_option linter.unusedSimpArgs false
set_option linter.unusedVariables false
namespace Go.Proofs.YtemfcogdjmjplaaGreat
open Go.RowKit Go.G8

end Go.Proofs.YtemfcogdjmjplaaGreat
namespace Go.G8
open Go.RowKit
theorem jobsOk_len {l : List DJob} (h : jobsOk l = true) : l.length ≤ 8 := (jobsOk_srt h).1
theorem OwnI.set {B : Nat} {e : TypeId} {n : Nat} {w : World} {g len cap : Nat} {xs : List Int} (h : OwnI B e n w (.slice (some ⟨g, 0, none⟩) len cap) xs) {i : Nat} (hi : i < xs.length) (x : Int) :
    OwnI B e n (w.setCell ⟨g, i, none⟩ (.int .i64 x)) (.slice (some ⟨g, 0, none⟩) len cap) (xs.set i x) := by
  obtain ⟨a, len', cap', e1, h0, h1, h2, h3⟩ := Own.open_ h
  injection e1 with e1 e2 e3
  subst e2; subst e3
  rcases h3 with h3 | ⟨g', cur, e4, hB, hG, hs, hp⟩
  · subst h3
    simp at h0
    rw [h0] at hi; simp at hi
  · rw [e4] at e1
    injection e1 with e1; injection e1 with e1
    subst e1
    refine Own.of_blk (hG.set_ i _) hB (by simpa using hs) (by simpa using h0) h1 h2 (fun j hj => ?_)
    rw [Array.getElem?_setIfInBounds, List.map_set, List.getElem?_set]
    have hl : len * n = xs.length := by simpa using h0.symm
    have hc : len * n ≤ cap * n := Nat.mul_le_mul_right _ h1
    by_cases hij : i = j
    · subst hij
      rw [if_pos rfl, if_pos rfl, if_pos (by omega), if_pos (by simpa using hi)]
    · rw [if_neg hij, if_neg hij]
      exact hp j hj
end Go.G8
namespace Go.Proofs.YtemfcogdjmjplaaGreat
open Go.RowKit Go.G8
end Go.Proofs.YtemfcogdjmjplaaGreat

-- The reference's JobFired.
set_option linter.unusedSimpArgs false
set_option linter.unusedVariables false
namespace Go.Proofs.YtemfcogdjmjplaaGreat
open Go.RowKit Go.G8

end Go.Proofs.YtemfcogdjmjplaaGreat
namespace Go.G8
open Go.RowKit
end Go.G8
namespace Go.Proofs.YtemfcogdjmjplaaGreat
open Go.RowKit Go.G8
end Go.Proofs.YtemfcogdjmjplaaGreat

-- Leases held, entries that are right.
set_option linter.unusedSimpArgs false
set_option linter.unusedVariables false
namespace Go.Proofs.YtemfcogdjmjplaaGreat
open Go.RowKit Go.G8

end Go.Proofs.YtemfcogdjmjplaaGreat

-- The next entry (both).
set_option linter.unusedSimpArgs false
set_option linter.unusedVariables false
namespace Go.Proofs.YtemfcogdjmjplaaGreat
open Go.RowKit Go.G8

end Go.Proofs.YtemfcogdjmjplaaGreat

-- What an entry fires: the reference.
set_option linter.unusedSimpArgs false
set_option linter.unusedVariables false
namespace Go.Proofs.YtemfcogdjmjplaaGreat
open Go.RowKit Go.G8

end Go.Proofs.YtemfcogdjmjplaaGreat
namespace Go.G8
open Go.RowKit
end Go.G8
namespace Go.Proofs.YtemfcogdjmjplaaGreat
open Go.RowKit Go.G8
end Go.Proofs.YtemfcogdjmjplaaGreat

-- Leases granted: the reference.
set_option linter.unusedSimpArgs false
set_option linter.unusedVariables false
namespace Go.Proofs.YtemfcogdjmjplaaGreat
open Go.RowKit Go.G8

end Go.Proofs.YtemfcogdjmjplaaGreat

-- The effect of an entry: the reference .
set_option linter.unusedSimpArgs false
set_option linter.unusedVariables false
namespace Go.Proofs.YtemfcogdjmjplaaGreat
open Go.RowKit Go.G8

end Go.Proofs.YtemfcogdjmjplaaGreat
namespace Go.G8
end Go.G8
namespace Go.Proofs.YtemfcogdjmjplaaGreat
open Go.RowKit Go.G8
end Go.Proofs.YtemfcogdjmjplaaGreat

-- The step of a state, case by case: the plain law.
set_option linter.unusedSimpArgs false
set_option linter.unusedVariables false
namespace Go.G8
open Go.RowKit Go.Proofs.YtemfcogdjmjplaaGreat

end Go.G8

-- Jobs found by Id and by Fired.
set_option linter.unusedSimpArgs false
set_option linter.unusedVariables false
namespace Go.Proofs.YtemfcogdjmjplaaGreat
open Go.RowKit Go.G8

end Go.Proofs.YtemfcogdjmjplaaGreat

-- A job by its Id: the program.
set_option linter.unusedSimpArgs false
set_option linter.unusedVariables false
namespace Go.Proofs.YtemfcogdjmjplaaGreat
open Go.RowKit Go.G8

end Go.Proofs.YtemfcogdjmjplaaGreat

-- What an entry fires: the program.
set_option linter.unusedSimpArgs false
set_option linter.unusedVariables false
namespace Go.Proofs.YtemfcogdjmjplaaGreat
open Go.RowKit Go.G8

set_option maxHeartbeats 1600000 in
set_option maxRecDepth 100000 in
theorem open_e (w : World) (c0_0 : Int) (c0_1 : Int) (c0_2 : Int) (c0_3 : Int) (c0_4 : Int) :
    Calls Tryz.prog 145 #[.agg #[.int .i64 c0_0, .int .i64 c0_1, .int .i64 c0_2, .int .i64 c0_3, .int .i64 c0_4]] w (RetV w (.bool (decide ((⟨c0_0, c0_1, c0_2, c0_3, c0_4⟩ : DJob).Fired = 0)))) := by
  have rsize_setRow := @size_setRow
  have rcell_setRow_lt := @cell_setRow_lt
  have rcell_setRow_gt := @cell_setRow_gt
  have rfrozen_setRow_lt := @frozen_setRow_lt
  have rfrozen_setRow_gt := @frozen_setRow_gt
  go_enter Tryz.func145, Tryz.ntmps145
  go_wp2
  all_goals
    go_ret
    refine ⟨by first | rfl | (simp [*]; done) | (simp [*]; omega) | (simp_all [bq, bn]; done) | (simp_all [bq, bn]; omega), ?_⟩
    repeat' (first | (with_reducible exact Ext.refl _) | (with_reducible assumption) | (with_reducible refine Ext.drewN ?_ _) | (with_reducible refine Ext.drew ?_) | (with_reducible refine Ext.alloc ?_ _) | (with_reducible refine Ext.setCell ?_ ?_ _) | (with_reducible refine Ext.setRow ?_ ?_ _) | (with_reducible exact Nat.le_refl _) | (with_reducible refine Ext.trans ?_ (by assumption)) | omega)
end Go.Proofs.YtemfcogdjmjplaaGreat

-- A job fired: the program.
set_option linter.unusedSimpArgs false
set_option linter.unusedVariables false
namespace Go.Proofs.YtemfcogdjmjplaaGreat
open Go.RowKit Go.G8

end Go.Proofs.YtemfcogdjmjplaaGreat

-- Leases granted: the program.
set_option linter.unusedSimpArgs false
set_option linter.unusedVariables false
namespace Go.Proofs.YtemfcogdjmjplaaGreat
open Go.RowKit Go.G8

end Go.Proofs.YtemfcogdjmjplaaGreat
