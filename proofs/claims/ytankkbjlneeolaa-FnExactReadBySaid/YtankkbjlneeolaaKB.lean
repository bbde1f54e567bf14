/- Bounds of marks. -/
import Derived.Test.YtankkbjlneeolaaKD
import Derived.Test.YtankkbjlneeolaaQ5
set_option linter.unusedSimpArgs false
set_option linter.unusedVariables false
namespace Go.Proofs.Ytankkbjlneeolaa
open Go.RowKit Go.G8

theorem sum_bound {α : Type} (f : α → Nat) (N : Nat) : ∀ (l : List α), (∀ x, x ∈ l → f x ≤ N) → (l.map f).sum ≤ l.length * N
  | [], _ => by simp
  | x :: l, h => by
    have h1 := h x (by simp)
    have h2 := sum_bound f N l (fun y hy => h y (by simp [hy]))
    simp only [List.map_cons, List.sum_cons, List.length_cons, Nat.add_mul, Nat.one_mul]; omega
theorem nDisk_bound {d : DDisk} (h0 : d.Kept.length ≤ 40) (h1 : ∀ r, r ∈ d.Kept → r.length ≤ 48) (h2 : d.Wait.length ≤ 60) (h3 : ∀ x, x ∈ d.Wait → x.Row.length ≤ 48) : nDisk d ≤ 1000000 := by
  have a := sum_bound (fun r : NRow => r.2.length) 48 (nestInt64S d.Kept) (fun x hx => by
    simp only [nestInt64S, List.mem_map] at hx; obtain ⟨r, hr, rfl⟩ := hx; exact h1 r hr)
  have b := sum_bound (fun r : NRow => r.2.length) 48 (nestWrite d.Wait) (fun x hx => by
    simp only [nestWrite, List.mem_map] at hx; obtain ⟨r, hr, rfl⟩ := hx; exact h3 r hr)
  have c := tot_zero (nestInt64S d.Kept); have e := tot_one (nestWrite d.Wait)
  have l0 : (nestInt64S d.Kept).length = d.Kept.length := by simp [nestInt64S]
  have l1 : (nestWrite d.Wait).length = d.Wait.length := by simp [nestWrite]
  unfold nDisk
  unfold rowsSize at c e
  rw [l0] at a c; rw [l1] at b e
  omega
theorem nDisk_ok {d : DDisk} (h : diskOk d = true) : nDisk d ≤ 1000000 := by
  obtain ⟨h1, h2, h3, h4, h5⟩ := diskOk_rows h
  exact nDisk_bound h4 h1 h5 (fun x hx => (h2 x hx).1)

end Go.Proofs.Ytankkbjlneeolaa
