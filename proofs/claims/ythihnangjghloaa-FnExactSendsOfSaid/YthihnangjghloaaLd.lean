/- Contracts and plain laws: P1 P2 P3 P4 P5. -/
import Derived.Test.YthihnangjghloaaLb
import Derived.Test.YthihnangjghloaaLa
set_option linter.unusedSimpArgs false
set_option linter.unusedVariables false
-- Pairs: right or not.
set_option linter.unusedSimpArgs false
set_option linter.unusedVariables false
namespace Go.Proofs.Ythihnangjghloaa
open Go.RowKit Go.G8

end Go.Proofs.Ythihnangjghloaa
namespace Go.G8
open Go.RowKit
def pairOk (p : DPair) : Bool := inb p.Key 0 9 && inb p.Value 0 999
/-- Element i of a list of pairs is in order. -/
def PairAt (l : List DPair) (i : Nat) : Prop := ∀ d, l[i]? = some d → pairOk d = true ∧ (∀ e, 0 < i → l[i - 1]? = some e → e.Key < d.Key)
def PairsOk (l : List DPair) : Prop := ∀ i, i < l.length → PairAt l i
theorem PairsOk.key {l : List DPair} (h : PairsOk l) : ∀ (i : Nat) (d : DPair), l[i]? = some d → (i : Int) ≤ d.Key
 | 0, d, hd => by
  have hlt : 0 < l.length := (List.getElem?_eq_some_iff.1 hd).1
  have := (h 0 hlt d hd).1
  simp only [pairOk, Bool.and_eq_true] at this
  have := (inb_true.1 this.1).1
  simpa using this
 | i + 1, d, hd => by
  have hlt : i + 1 < l.length := (List.getElem?_eq_some_iff.1 hd).1
  have he : l[i]? = some l[i] := List.getElem?_eq_getElem (by omega)
  have h1 := (h (i + 1) hlt d hd).2 l[i] (by omega) (by simp)
  have h2 := PairsOk.key h i l[i] he
  omega
theorem PairsOk.len {l : List DPair} (h : PairsOk l) : l.length ≤ 10 := by
 rcases Nat.lt_or_ge 10 l.length with hlt | hge
 ·
  have hd : l[10]? = some l[10] := List.getElem?_eq_getElem hlt
  have h1 := h.key 10 _ hd
  have := (h 10 hlt _ hd).1
  simp only [pairOk, Bool.and_eq_true] at this
  have := (inb_true.1 this.1).2
  omega
 ·
  exact hge
theorem PairsOk.next {l : List DPair} {k : Nat} {d : DPair} (hd : l[k]? = some d) (h : ∀ i, i < k → PairAt l i) (h1 : pairOk d = true) (h2 : ∀ e, 0 < k → l[k - 1]? = some e → e.Key < d.Key) : ∀ i, i < k + 1 → PairAt l i := by
 intro i hi
 by_cases hik : i = k
 ·
  subst hik
  intro d' hd'
  rw [hd] at hd'
  obtain rfl := Option.some.inj hd'
  exact ⟨h1, h2⟩
 ·
  exact h i (by omega)
end Go.G8
namespace Go.Proofs.Ythihnangjghloaa
open Go.RowKit Go.G8
set_option maxHeartbeats 1600000 in
set_option maxRecDepth 100000 in
theorem keyOk_cP (w : World) (c0_0 : Int) :
  Calls Try.prog 137 #[.int .i64 c0_0] w (fun e w' => e = .returned (.bool (inb c0_0 0 9)) ∧ w = w') := by
 have rsize_setRow := @size_setRow
 have rcell_setRow_lt := @cell_setRow_lt
 have rcell_setRow_gt := @cell_setRow_gt
 have rfrozen_setRow_lt := @frozen_setRow_lt
 have rfrozen_setRow_gt := @frozen_setRow_gt
 go_enter Try.func137, Try.ntmps137
 go_wp2_with (first | (go_at_call 92; refine (between_c _ _ _ _  ).mono ?_; rintro e wa ⟨rfl, rfl⟩))
 all_goals
  go_ret
  refine ⟨by first | rfl | (simp [*]; done) | (simp [*]; omega) | (simp_all [bq, bn]; done) | (simp_all [bq, bn]; omega), by rfl⟩
set_option maxHeartbeats 1600000 in
set_option maxRecDepth 100000 in
theorem valueOk_cP (w : World) (c0_0 : Int) :
  Calls Try.prog 138 #[.int .i64 c0_0] w (fun e w' => e = .returned (.bool (inb c0_0 0 999)) ∧ w = w') := by
 have rsize_setRow := @size_setRow
 have rcell_setRow_lt := @cell_setRow_lt
 have rcell_setRow_gt := @cell_setRow_gt
 have rfrozen_setRow_lt := @frozen_setRow_lt
 have rfrozen_setRow_gt := @frozen_setRow_gt
 go_enter Try.func138, Try.ntmps138
 go_wp2_with (first | (go_at_call 92; refine (between_c _ _ _ _  ).mono ?_; rintro e wa ⟨rfl, rfl⟩))
 all_goals
  go_ret
  refine ⟨by first | rfl | (simp [*]; done) | (simp [*]; omega) | (simp_all [bq, bn]; done) | (simp_all [bq, bn]; omega), by rfl⟩
end Go.Proofs.Ythihnangjghloaa

-- Jobs and leases: one is right or not.
set_option linter.unusedSimpArgs false
set_option linter.unusedVariables false
namespace Go.Proofs.Ythihnangjghloaa
open Go.RowKit Go.G8

end Go.Proofs.Ythihnangjghloaa
namespace Go.G8
def jobOk (j : DJob) : Bool := idOk j.Id && (timeOk j.Due && (inb j.Key 0 9 && (inb j.Value 0 999 && inb j.Fired 0 2000)))
def leaseZ (l : DLease) : Bool := decide (l.Holder = 0) && (decide (l.Epoch = 0) && decide (l.Until = 0))
def leaseOk (l : DLease) : Bool := leaseZ l || (schedOk l.Holder && (inb l.Epoch 1 1000 && inb l.Until 1 1001000))
end Go.G8
namespace Go.Proofs.Ythihnangjghloaa
open Go.RowKit Go.G8
set_option maxHeartbeats 1600000 in
set_option maxRecDepth 100000 in
theorem schedOk_cP (w : World) (c0_0 : Int) :
  Calls Try.prog 80 #[.int .i64 c0_0] w (fun e w' => e = .returned (.bool (schedOk c0_0)) ∧ w = w') := by
 have rsize_setRow := @size_setRow
 have rcell_setRow_lt := @cell_setRow_lt
 have rcell_setRow_gt := @cell_setRow_gt
 have rfrozen_setRow_lt := @frozen_setRow_lt
 have rfrozen_setRow_gt := @frozen_setRow_gt
 go_enter Try.func80, Try.ntmps80
 go_wp2
 all_goals
  go_ret
  refine ⟨by first | rfl | (simp [schedOk, *]; done) | (simp [schedOk, *]; omega) | (simp_all [schedOk, bq, bn]; done) | (simp_all [schedOk, bq, bn]; omega), by rfl⟩
end Go.Proofs.Ythihnangjghloaa

-- Jobs: the reference says right or not.
set_option linter.unusedSimpArgs false
set_option linter.unusedVariables false
namespace Go.Proofs.Ythihnangjghloaa
open Go.RowKit Go.G8

end Go.Proofs.Ythihnangjghloaa
namespace Go.G8
open Go.RowKit
/-- Element i of a list of jobs is in order. -/
def JobAt (l : List DJob) (i : Nat) : Prop := ∀ d, l[i]? = some d → jobOk d = true ∧ (∀ e, 0 < i → l[i - 1]? = some e → e.Id < d.Id) ∧ (0 < d.Fired → ∀ k e, k < i → l[k]? = some e → e.Fired ≠ d.Fired)
def JobsOk (l : List DJob) : Prop := l.length ≤ 8 ∧ ∀ i, i < l.length → JobAt l i
theorem JobsOk.next {l : List DJob} {k : Nat} {d : DJob} (hd : l[k]? = some d) (h : ∀ i, i < k → JobAt l i) (h1 : jobOk d = true) (h2 : ∀ e, 0 < k → l[k - 1]? = some e → e.Id < d.Id)
  (h3 : 0 < d.Fired → ∀ i e, i < k → l[i]? = some e → e.Fired ≠ d.Fired) : ∀ i, i < k + 1 → JobAt l i := by
 intro i hi
 by_cases hik : i = k
 ·
  subst hik
  intro d' hd'
  rw [hd] at hd'
  obtain rfl := Option.some.inj hd'
  exact ⟨h1, h2, h3⟩
 ·
  exact h i (by omega)
end Go.G8
namespace Go.Proofs.Ythihnangjghloaa
open Go.RowKit Go.G8
end Go.Proofs.Ythihnangjghloaa

-- Jobs: the program says right or not.
set_option linter.unusedSimpArgs false
set_option linter.unusedVariables false
namespace Go.Proofs.Ythihnangjghloaa
open Go.RowKit Go.G8

end Go.Proofs.Ythihnangjghloaa

-- States: right or not.
namespace Go.Proofs.Ythihnangjghloaa
open Go.RowKit Go.G8

end Go.Proofs.Ythihnangjghloaa
namespace Go.G8
end Go.G8
namespace Go.Proofs.Ythihnangjghloaa
open Go.RowKit Go.G8
end Go.Proofs.Ythihnangjghloaa
