/- Snapshots read off their rows, as a function. -/
import Derived.Test.YtemhbbpbmgpcaaaRS3
set_option linter.unusedSimpArgs false
set_option linter.unusedVariables false
namespace Go.Proofs.Ytemhbbpbmgpcaaa
open Go.RowKit Go.G8

end Go.Proofs.Ytemhbbpbmgpcaaa
namespace Go.G8
open Go.RowKit Go.Proofs.Ytemhbbpbmgpcaaa
open Classical in
/-- The snapshot that these rows tell of, if there is one. -/
noncomputable def readShot (l : List (List Int)) : Option DShot := if h : ∃ s, shotOk s = true ∧ shotRows s = l then some h.choose else none
noncomputable def rsShot (l : List (List Int)) : DShot := (readShot l).getD ⟨0, ⟨0, 0, [], [], ⟨0, 0, 0⟩⟩⟩
noncomputable def rsOk (l : List (List Int)) : Bool := (readShot l).isSome
theorem readShot_some {l : List (List Int)} {s : DShot} (h : shotOk s = true) (e : shotRows s = l) : readShot l = some s := by
  have hx : ∃ s, shotOk s = true ∧ shotRows s = l := ⟨s, h, e⟩
  unfold readShot
  rw [dif_pos hx]
  have h2 := hx.choose_spec
  rw [shotRows_inj h2.1 h (h2.2.trans e.symm)]
theorem readShot_none {l : List (List Int)} (h : ∀ s, shotOk s = true → shotRows s ≠ l) : readShot l = none := by
  unfold readShot
  rw [dif_neg]
  rintro ⟨s, h1, h2⟩
  exact h s h1 h2
theorem readShot_is {l : List (List Int)} {s : DShot} (h : readShot l = some s) : shotOk s = true ∧ shotRows s = l := by
  unfold readShot at h
  split at h
  · rename_i hx
    have h2 := hx.choose_spec
    rw [← Option.some.inj h]
    exact h2
  · cases h
theorem rows_len {l : List (List Int)} {N : Nat} (h : rowsSize (nestInt64S l) ≤ N) : l.length ≤ N := by
  have : (nestInt64S l).length = l.length := by simp [nestInt64S]
  unfold rowsSize at h
  omega
end Go.G8
namespace Go.Proofs.Ytemhbbpbmgpcaaa
open Go.RowKit Go.G8
theorem rsShot_small (l : List (List Int)) : numShot (rsShot l) ≤ 100000000 := by
  unfold rsShot
  cases h : readShot l with
  | none => simp [numShot]
  | some s =>
    have h1 := stateOk_lens (shotOk_parts (readShot_is h).1).2.2.1
    simp only [Option.getD_some, numShot]
    omega
theorem rs_post {w : World} {l : List (List Int)} {r : Value} {w' : World} (h : (∃ s, shotOk s = true ∧ shotRows s = l ∧ ∃ u, r = .tuple #[u, .bool true] ∧ IsShot w.heap.size w' u s) ∨ ((∀ s, shotOk s = true → shotRows s ≠ l) ∧ r = .tuple #[.agg #[.int .i64 0, .int .i64 0, .int .i64 0, .slice none 0 0, .slice none 0 0, .int .i64 0, .int .i64 0, .int .i64 0], .bool false])) :
    ∃ u, r = .tuple #[u, .bool (rsOk l)] ∧ ∃ F, OwShot w.heap.size w' u (rsShot l) F := by
  rcases h with ⟨s, h1, h2, u, rfl, hu⟩ | ⟨h, rfl⟩
  · have e := readShot_some h1 h2
    refine ⟨u, by simp [rsOk, e], ?_⟩
    rw [show rsShot l = s by simp [rsShot, e]]
    exact hu.ow
  · have e := readShot_none h
    refine ⟨_, by simp [rsOk, e]; rfl, ?_⟩
    rw [show rsShot l = ⟨0, ⟨0, 0, [], [], ⟨0, 0, 0⟩⟩⟩ by simp [rsShot, e]]
    exact IsShot.ow ⟨_, _, rfl, OwnI.nil _ _ _ _, OwnI.nil _ _ _ _⟩
theorem sRowsShot_f {w : World} {v : Value} {l : List (List Int)} (h : RdRows w v l) (hr : l.length ≤ 2000000) : Calls Try.prog 15 #[v] w (Ret w fun r w' => ∃ u, r = .tuple #[u, .bool (rsOk l)] ∧ ∃ F, OwShot w.heap.size w' u (rsShot l) F) :=
  (sRowsShot_k h hr).mono fun _ _ ⟨v, e, x, q⟩ => ⟨v, e, x, rs_post q⟩
theorem rowsShot_f {w : World} {v : Value} {l : List (List Int)} (h : RdRows w v l) (hr : l.length ≤ 2000000) : Calls Try.prog 17 #[v] w (Ret w fun r w' => ∃ u, r = .tuple #[u, .bool (rsOk l)] ∧ ∃ F, OwShot w.heap.size w' u (rsShot l) F) :=
  (rowsShot_k h hr).mono fun _ _ ⟨v, e, x, q⟩ => ⟨v, e, x, rs_post q⟩

end Go.Proofs.Ytemhbbpbmgpcaaa
