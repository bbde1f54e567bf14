/- Contracts and plain laws: Ef Gr Rd1 SP SJ SJ2 Gt Gt2 Nx Fi Eo ApM PJ JA Fi2 JF. -/
import Derived.Test.YthihnangjghloaaLd
import Derived.Test.YthihnangjghloaaLa
import Derived.Test.YthihnangjghloaaLb
import Derived.Test.YthihnangjghloaaLf
import Derived.Test.YthihnangjghloaaLe
set_option linter.unusedSimpArgs false
set_option linter.unusedVariables false
-- Changes of pairs, jobs, leases and states: the plain law.
set_option linter.unusedSimpArgs false
set_option linter.unusedVariables false
namespace Go.G8
open Go.RowKit Go.Proofs.Ythihnangjghloaa

def low {α : Type} (key : α → Int) (x : Int) (l : List α) : List α := l.filter (fun a => decide (key a < x))
def at_ {α : Type} (key : α → Int) (x : Int) (l : List α) : Option α := l.find? (fun a => decide (key a = x))
section
variable {α : Type} {key : α → Int} {l : List α} {x : Int} {k : Nat}
end
-- pairs
-- jobs
-- leases
def holdsAt (l : DLease) (who epoch time : Int) : Bool := leaseOk l && (decide (l.Holder ≠ 0) && (decide (l.Holder = who) && (decide (l.Epoch = epoch) && (timeOk time && decide (time < l.Until)))))
-- states
def fires (s : DState) (e : DEntry) : Bool := decide (e.Op.Kind = 4) && (match at_ DJob.Id e.Op.A s.Jobs with | some j => decide (j.Fired = 0) && (decide (j.Due ≤ e.Time) && holdsAt s.Lease e.Client e.Op.B e.Time) | none => false)
end Go.G8

-- Leases held, entries that are right.
set_option linter.unusedSimpArgs false
set_option linter.unusedVariables false
namespace Go.Proofs.Ythihnangjghloaa
open Go.RowKit Go.G8

set_option maxHeartbeats 1600000 in
set_option maxRecDepth 100000 in
theorem l7Key_e (w : World) (c0_0 : Int) :
  Calls Try.prog 132 #[.int .i64 c0_0] w (fun e w' => e = .returned (.bool (inb c0_0 0 9)) ∧ w = w') := by
 have rsize_setRow := @size_setRow
 have rcell_setRow_lt := @cell_setRow_lt
 have rcell_setRow_gt := @cell_setRow_gt
 have rfrozen_setRow_lt := @frozen_setRow_lt
 have rfrozen_setRow_gt := @frozen_setRow_gt
 go_enter Try.func132, Try.ntmps132
 go_wp2_with (first | (go_at_call 96; refine (l1In_c _ _ _ _  ).mono ?_; rintro e wa ⟨rfl, rfl⟩))
 all_goals
  go_ret
  refine ⟨by first | rfl | (simp [*]; done) | (simp [*]; omega) | (simp_all [bq, bn]; done) | (simp_all [bq, bn]; omega), by rfl⟩
set_option maxHeartbeats 1600000 in
set_option maxRecDepth 100000 in
theorem l7Value_e (w : World) (c0_0 : Int) :
  Calls Try.prog 133 #[.int .i64 c0_0] w (fun e w' => e = .returned (.bool (inb c0_0 0 999)) ∧ w = w') := by
 have rsize_setRow := @size_setRow
 have rcell_setRow_lt := @cell_setRow_lt
 have rcell_setRow_gt := @cell_setRow_gt
 have rfrozen_setRow_lt := @frozen_setRow_lt
 have rfrozen_setRow_gt := @frozen_setRow_gt
 go_enter Try.func133, Try.ntmps133
 go_wp2_with (first | (go_at_call 96; refine (l1In_c _ _ _ _  ).mono ?_; rintro e wa ⟨rfl, rfl⟩))
 all_goals
  go_ret
  refine ⟨by first | rfl | (simp [*]; done) | (simp [*]; omega) | (simp_all [bq, bn]; done) | (simp_all [bq, bn]; omega), by rfl⟩
set_option maxHeartbeats 1600000 in
set_option maxRecDepth 100000 in
theorem l7Id_e (w : World) (c0_0 : Int) :
  Calls Try.prog 134 #[.int .i64 c0_0] w (fun e w' => e = .returned (.bool (idOk c0_0)) ∧ w = w') := by
 have rsize_setRow := @size_setRow
 have rcell_setRow_lt := @cell_setRow_lt
 have rcell_setRow_gt := @cell_setRow_gt
 have rfrozen_setRow_lt := @frozen_setRow_lt
 have rfrozen_setRow_gt := @frozen_setRow_gt
 go_enter Try.func134, Try.ntmps134
 go_wp2_with (first | (go_at_call 96; refine (l1In_c _ _ _ _  ).mono ?_; rintro e wa ⟨rfl, rfl⟩))
 all_goals
  go_ret
  refine ⟨by first | rfl | (simp [idOk, *]; done) | (simp [idOk, *]; omega) | (simp_all [idOk, bq, bn]; done) | (simp_all [idOk, bq, bn]; omega), by rfl⟩
set_option maxHeartbeats 1600000 in
set_option maxRecDepth 100000 in
theorem l7Seq_e (w : World) (c0_0 : Int) :
  Calls Try.prog 143 #[.int .i64 c0_0] w (fun e w' => e = .returned (.bool (inb c0_0 1 2000)) ∧ w = w') := by
 have rsize_setRow := @size_setRow
 have rcell_setRow_lt := @cell_setRow_lt
 have rcell_setRow_gt := @cell_setRow_gt
 have rfrozen_setRow_lt := @frozen_setRow_lt
 have rfrozen_setRow_gt := @frozen_setRow_gt
 go_enter Try.func143, Try.ntmps143
 go_wp2_with (first | (go_at_call 96; refine (l1In_c _ _ _ _  ).mono ?_; rintro e wa ⟨rfl, rfl⟩))
 all_goals
  go_ret
  refine ⟨by first | rfl | (simp [*]; done) | (simp [*]; omega) | (simp_all [bq, bn]; done) | (simp_all [bq, bn]; omega), by rfl⟩
set_option maxHeartbeats 1600000 in
set_option maxRecDepth 100000 in
theorem sAskerOk_e (w : World) (c0_0 : Int) :
  Calls Try.prog 142 #[.int .i64 c0_0] w (fun e w' => e = .returned (.bool (inb c0_0 2 5)) ∧ w = w') := by
 have rsize_setRow := @size_setRow
 have rcell_setRow_lt := @cell_setRow_lt
 have rcell_setRow_gt := @cell_setRow_gt
 have rfrozen_setRow_lt := @frozen_setRow_lt
 have rfrozen_setRow_gt := @frozen_setRow_gt
 go_enter Try.func142, Try.ntmps142
 go_wp2_with (first | (go_at_call 96; refine (l1In_c _ _ _ _  ).mono ?_; rintro e wa ⟨rfl, rfl⟩))
 all_goals
  go_ret
  refine ⟨by first | rfl | (simp [*]; done) | (simp [*]; omega) | (simp_all [bq, bn]; done) | (simp_all [bq, bn]; omega), by rfl⟩
set_option maxHeartbeats 1600000 in
set_option maxRecDepth 100000 in
theorem seqOk_e (w : World) (c0_0 : Int) :
  Calls Try.prog 189 #[.int .i64 c0_0] w (fun e w' => e = .returned (.bool (inb c0_0 1 2000)) ∧ w = w') := by
 have rsize_setRow := @size_setRow
 have rcell_setRow_lt := @cell_setRow_lt
 have rcell_setRow_gt := @cell_setRow_gt
 have rfrozen_setRow_lt := @frozen_setRow_lt
 have rfrozen_setRow_gt := @frozen_setRow_gt
 go_enter Try.func189, Try.ntmps189
 go_wp2_with (first | (go_at_call 92; refine (between_c _ _ _ _  ).mono ?_; rintro e wa ⟨rfl, rfl⟩))
 all_goals
  go_ret
  refine ⟨by first | rfl | (simp [*]; done) | (simp [*]; omega) | (simp_all [bq, bn]; done) | (simp_all [bq, bn]; omega), by rfl⟩
set_option maxHeartbeats 1600000 in
set_option maxRecDepth 100000 in
theorem askerOk_e (w : World) (c0_0 : Int) :
  Calls Try.prog 188 #[.int .i64 c0_0] w (fun e w' => e = .returned (.bool (inb c0_0 2 5)) ∧ w = w') := by
 have rsize_setRow := @size_setRow
 have rcell_setRow_lt := @cell_setRow_lt
 have rcell_setRow_gt := @cell_setRow_gt
 have rfrozen_setRow_lt := @frozen_setRow_lt
 have rfrozen_setRow_gt := @frozen_setRow_gt
 go_enter Try.func188, Try.ntmps188
 go_wp2_with (first | (go_at_call 92; refine (between_c _ _ _ _  ).mono ?_; rintro e wa ⟨rfl, rfl⟩))
 all_goals
  go_ret
  refine ⟨by first | rfl | (simp [*]; done) | (simp [*]; omega) | (simp_all [bq, bn]; done) | (simp_all [bq, bn]; omega), by rfl⟩
set_option maxHeartbeats 1600000 in
set_option maxRecDepth 100000 in
theorem sOpOk_e (w : World) (c0_0 : Int) (c0_1 : Int) (c0_2 : Int) (c0_3 : Int) (c0_4 : Int) :
  Calls Try.prog 100 #[.agg #[.int .i64 c0_0, .int .i64 c0_1, .int .i64 c0_2, .int .i64 c0_3, .int .i64 c0_4]] w (RetV w (.bool (opOk (⟨c0_0, c0_1, c0_2, c0_3, c0_4⟩ : DOp)))) := by
 have rsize_setRow := @size_setRow
 have rcell_setRow_lt := @cell_setRow_lt
 have rcell_setRow_gt := @cell_setRow_gt
 have rfrozen_setRow_lt := @frozen_setRow_lt
 have rfrozen_setRow_gt := @frozen_setRow_gt
 go_enter Try.func100, Try.ntmps100
 go_wp2_with (first | (go_at_call 132; refine (l7Key_e _ _  ).mono ?_; rintro e wa ⟨rfl, rfl⟩) | (go_at_call 133; refine (l7Value_e _ _  ).mono ?_; rintro e wb ⟨rfl, rfl⟩) | (go_at_call 134; refine (l7Id_e _ _  ).mono ?_; rintro e wc ⟨rfl, rfl⟩) | (go_at_call 117; refine (sTimeOk_c _ _  ).mono ?_; rintro e wd ⟨rfl, rfl⟩) | (go_at_call 96; refine (l1In_c _ _ _ _  ).mono ?_; rintro e we ⟨rfl, rfl⟩))
 all_goals
  go_ret
  refine ⟨by first | rfl | (simp [opOk, *]; done) | (simp [opOk, *]; omega) | (simp_all [opOk, bq, bn]; done) | (simp_all [opOk, bq, bn]; omega), ?_⟩
  (first | exact extT | omega)
set_option maxHeartbeats 1600000 in
set_option maxRecDepth 100000 in
theorem opOk_e (w : World) (c0_0 : Int) (c0_1 : Int) (c0_2 : Int) (c0_3 : Int) (c0_4 : Int) :
  Calls Try.prog 104 #[.agg #[.int .i64 c0_0, .int .i64 c0_1, .int .i64 c0_2, .int .i64 c0_3, .int .i64 c0_4]] w (RetV w (.bool (opOk (⟨c0_0, c0_1, c0_2, c0_3, c0_4⟩ : DOp)))) := by
 have rsize_setRow := @size_setRow
 have rcell_setRow_lt := @cell_setRow_lt
 have rcell_setRow_gt := @cell_setRow_gt
 have rfrozen_setRow_lt := @frozen_setRow_lt
 have rfrozen_setRow_gt := @frozen_setRow_gt
 go_enter Try.func104, Try.ntmps104
 go_wp2_with (first | (go_at_call 137; refine (keyOk_cP _ _  ).mono ?_; rintro e wa ⟨rfl, rfl⟩) | (go_at_call 138; refine (valueOk_cP _ _  ).mono ?_; rintro e wb ⟨rfl, rfl⟩) | (go_at_call 93; refine (idOk_c _ _  ).mono ?_; rintro e wc ⟨rfl, rfl⟩) | (go_at_call 78; refine (timeOk_c _ _  ).mono ?_; rintro e wd ⟨rfl, rfl⟩) | (go_at_call 92; refine (between_c _ _ _ _  ).mono ?_; rintro e we ⟨rfl, rfl⟩))
 all_goals
  go_ret
  refine ⟨by first | rfl | (simp [opOk, *]; done) | (simp [opOk, *]; omega) | (simp_all [opOk, bq, bn]; done) | (simp_all [opOk, bq, bn]; omega), ?_⟩
  (first | exact extT | omega)
end Go.Proofs.Ythihnangjghloaa

-- Pairs read by key.
set_option linter.unusedSimpArgs false
set_option linter.unusedVariables false
namespace Go.Proofs.Ythihnangjghloaa
open Go.RowKit Go.G8

end Go.Proofs.Ythihnangjghloaa
namespace Go.G8
open Go.RowKit
end Go.G8
namespace Go.Proofs.Ythihnangjghloaa
open Go.RowKit Go.G8
end Go.Proofs.Ythihnangjghloaa

-- The reference's operations on pairs.
set_option linter.unusedSimpArgs false
set_option linter.unusedVariables false
namespace Go.Proofs.Ythihnangjghloaa
open Go.RowKit Go.G8

end Go.Proofs.Ythihnangjghloaa
namespace Go.G8
open Go.RowKit
theorem OwnI.lit0 (w : World) (e : TypeId) (n : Nat) : OwnI w.heap.size e n (w.alloc (.cells #[] e)) (.slice (some ⟨w.heap.size, 0, none⟩) 0 0) [] :=
 Own.of_blk (cap := 0) (Blk.new w e #[]) (Nat.le_refl _) (by simp) (by simp) (Nat.le_refl _) (by decide) (fun j hj => by rw [Nat.zero_mul] at hj; omega)
end Go.G8
namespace Go.Proofs.Ythihnangjghloaa
open Go.RowKit Go.G8
end Go.Proofs.Ythihnangjghloaa

-- The reference's operations on jobs.
set_option linter.unusedSimpArgs false
set_option linter.unusedVariables false
namespace Go.Proofs.Ythihnangjghloaa
open Go.RowKit Go.G8

end Go.Proofs.Ythihnangjghloaa
namespace Go.G8
open Go.RowKit
theorem OwnI.set {B : Nat} {e : TypeId} {n : Nat} {w : World} {g len cap : Nat} {xs : List Int} (h : OwnI B e n w (.slice (some ⟨g, 0, none⟩) len cap) xs) {i : Nat} (hi : i < xs.length) (x : Int) :
  OwnI B e n (w.setCell ⟨g, i, none⟩ (.int .i64 x)) (.slice (some ⟨g, 0, none⟩) len cap) (xs.set i x) := by
 obtain ⟨a, len', cap', e1, h0, h1, h2, h3⟩ := Own.open_ h
 injection e1 with e1 e2 e3
 subst e2; subst e3
 rcases h3 with h3 | ⟨g', cur, e4, hB, hG, hs, hp⟩
 ·
  subst h3
  simp at h0
  rw [h0] at hi; simp at hi
 ·
  rw [e4] at e1
  injection e1 with e1; injection e1 with e1
  subst e1
  refine Own.of_blk (hG.set_ i _) hB (by simpa using hs) (by simpa using h0) h1 h2 (fun j hj => ?_)
  rw [Array.getElem?_setIfInBounds, List.map_set, List.getElem?_set]
  have hl : len * n = xs.length := by simpa using h0.symm
  have hc : len * n ≤ cap * n := Nat.mul_le_mul_right _ h1
  by_cases hij : i = j
  ·
   subst hij
   rw [if_pos rfl, if_pos rfl, if_pos (by omega), if_pos (by simpa using hi)]
  ·
   rw [if_neg hij, if_neg hij]
   exact hp j hj
end Go.G8
namespace Go.Proofs.Ythihnangjghloaa
open Go.RowKit Go.G8
end Go.Proofs.Ythihnangjghloaa

-- The reference's JobFired.
set_option linter.unusedSimpArgs false
set_option linter.unusedVariables false
namespace Go.Proofs.Ythihnangjghloaa
open Go.RowKit Go.G8

end Go.Proofs.Ythihnangjghloaa
namespace Go.G8
open Go.RowKit
end Go.G8
namespace Go.Proofs.Ythihnangjghloaa
open Go.RowKit Go.G8
end Go.Proofs.Ythihnangjghloaa

-- Leases granted: the reference.
set_option linter.unusedSimpArgs false
set_option linter.unusedVariables false
namespace Go.Proofs.Ythihnangjghloaa
open Go.RowKit Go.G8

end Go.Proofs.Ythihnangjghloaa

-- Leases granted: the program.
set_option linter.unusedSimpArgs false
set_option linter.unusedVariables false
namespace Go.Proofs.Ythihnangjghloaa
open Go.RowKit Go.G8


end Go.Proofs.Ythihnangjghloaa

-- The next entry (both).
set_option linter.unusedSimpArgs false
set_option linter.unusedVariables false
namespace Go.Proofs.Ythihnangjghloaa
open Go.RowKit Go.G8

end Go.Proofs.Ythihnangjghloaa

-- What an entry fires: the reference.
set_option linter.unusedSimpArgs false
set_option linter.unusedVariables false
namespace Go.Proofs.Ythihnangjghloaa
open Go.RowKit Go.G8

end Go.Proofs.Ythihnangjghloaa
namespace Go.G8
open Go.RowKit
end Go.G8
namespace Go.Proofs.Ythihnangjghloaa
open Go.RowKit Go.G8
end Go.Proofs.Ythihnangjghloaa

-- The effect of an entry: the reference .
set_option linter.unusedSimpArgs false
set_option linter.unusedVariables false
namespace Go.Proofs.Ythihnangjghloaa
open Go.RowKit Go.G8

end Go.Proofs.Ythihnangjghloaa
namespace Go.G8
end Go.G8
namespace Go.Proofs.Ythihnangjghloaa
open Go.RowKit Go.G8
end Go.Proofs.Ythihnangjghloaa

-- The step of a state, case by case: the plain law.
set_option linter.unusedSimpArgs false
set_option linter.unusedVariables false
namespace Go.G8
open Go.RowKit Go.Proofs.Ythihnangjghloaa

end Go.G8

-- Jobs found by Id and by Fired.
set_option linter.unusedSimpArgs false
set_option linter.unusedVariables false
namespace Go.Proofs.Ythihnangjghloaa
open Go.RowKit Go.G8


end Go.Proofs.Ythihnangjghloaa

-- A job by its Id: the program.
set_option linter.unusedSimpArgs false
set_option linter.unusedVariables false
namespace Go.Proofs.Ythihnangjghloaa
open Go.RowKit Go.G8


end Go.Proofs.Ythihnangjghloaa

-- What an entry fires: the program.
set_option linter.unusedSimpArgs false
set_option linter.unusedVariables false
namespace Go.Proofs.Ythihnangjghloaa
open Go.RowKit Go.G8


end Go.Proofs.Ythihnangjghloaa

-- A job fired: the program.
set_option linter.unusedSimpArgs false
set_option linter.unusedVariables false
namespace Go.Proofs.Ythihnangjghloaa
open Go.RowKit Go.G8


end Go.Proofs.Ythihnangjghloaa
