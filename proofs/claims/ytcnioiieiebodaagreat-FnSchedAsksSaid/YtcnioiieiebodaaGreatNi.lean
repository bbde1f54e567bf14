/- Contracts and plain laws: GM ASM. -/
import Derived.Test.YtcnioiieiebodaaGreatMa
import Derived.Test.YtcnioiieiebodaaGreatMv
import Derived.Test.YtcnioiieiebodaaGreatNa
import Derived.Test.YtcnioiieiebodaaGreatMx
set_option linter.unusedSimpArgs false
set_option linter.unusedVariables false
-- Views at two times, without the program.
set_option linter.unusedSimpArgs false
set_option linter.unusedVariables false
namespace Go.Proofs.YtcnioiieiebodaaGreat
open Go.RowKit Go.G8

end Go.Proofs.YtcnioiieiebodaaGreat
namespace Go.G8
open Go.RowKit
open Go.Proofs.YtcnioiieiebodaaGreat
theorem dueIds_mono (l : List DDue) {G G' : Int} (h0 : 0 ≤ G) (h : G ≤ G') : (dueIds l G).length ≤ (dueIds l G').length := by
 unfold dueIds
 rw [if_neg (by omega), if_neg (by omega), List.length_map, List.length_map]
 induction l with
 | nil => simp
 | cons d l ih =>
  simp only [List.filter_cons]
  by_cases h1 : d.Due ≤ G
  ·
   have h2 : d.Due ≤ G' := by omega
   simp only [h1, h2, decide_true, if_true, List.length_cons]; omega
  ·
   by_cases h2 : d.Due ≤ G'
   ·
    simp only [h1, h2, decide_true, decide_false, if_true, List.length_cons]; simp; omega
   ·
    simp only [h1, h2, decide_false]; exact ih
theorem guess_eq {v : DView} {now : Int} (hv : jobsOk2 v.Jobs = true) (h0 : 0 ≤ now) (h1 : now ≤ 1000000) : guessOf v now = max v.Jobs.Time now := by
 unfold guessOf
 have : timeOk now = true := inb_true.2 ⟨h0, h1⟩
 simp [hv, this]
theorem guess_mono {v : DView} {now : Int} (hv : jobsOk2 v.Jobs = true) (h0 : 0 ≤ now) (h1 : now < 1000000) : guessOf v now ≤ guessOf v (now + 1) ∧ 0 ≤ guessOf v now := by
 rw [guess_eq hv h0 (by omega), guess_eq hv (by omega) (by omega)]
 omega
theorem open_first {l : List DDue} (h : OpenOk l) {d : DDue} (hd : l[0]? = some d) : ∀ (i : Nat) (e : DDue), l[i]? = some e → d.Due ≤ e.Due
 | 0, e, he => by rw [hd] at he; cases he; exact Int.le_refl _
 | i + 1, e, he => by
  have hi : i + 1 < l.length := by
   rcases Nat.lt_or_ge (i + 1) l.length with h' | h'
   ·
    exact h'
   ·
    rw [List.getElem?_eq_none h'] at he; cases he
  have hp : l[i]? = some l[i] := List.getElem?_eq_getElem (by omega)
  have h1 := open_first h hd i _ hp
  have h2 := (h.2 (i + 1) hi e he).2.2.1 l[i] (by omega) (by simp)
  simp only [dueLess, decide_eq_true_eq] at h2
  omega
/-- The first open job that is due is the first of all. -/
theorem due_first {v : DView} (hv : jobsOk2 v.Jobs = true) {G : Int} (h : 0 < (dueIds v.Jobs.Open G).length) : ∃ d t, v.Jobs.Open = d :: t ∧ (dueIds v.Jobs.Open G).headD 0 = d.Id := by
 have ho : OpenOk v.Jobs.Open := by
  simp only [jobsOk2, Bool.and_eq_true] at hv
  exact openOk_iff.1 hv.2.2.2.2.2
 cases hl : v.Jobs.Open with
 | nil => rw [hl] at h; simp [dueIds] at h
 | cons d t =>
  refine ⟨d, t, rfl, ?_⟩
  rw [hl] at h ho
  unfold dueIds at h ⊢
  by_cases hG : G < 0
  ·
   rw [if_pos hG] at h; simp at h
  rw [if_neg hG] at h ⊢
  by_cases h1 : d.Due ≤ G
  ·
   rw [List.filter_cons_of_pos (by simpa using h1)]; rfl
  ·
   exfalso
   rw [List.length_map] at h
   obtain ⟨e, he⟩ := List.exists_mem_of_length_pos h
   obtain ⟨he1, he2⟩ := List.mem_filter.1 he
   obtain ⟨i, hi⟩ := List.mem_iff_getElem?.1 he1
   have := open_first ho (d := d) rfl i e hi
   simp at he2
   omega
theorem free_holds {v : DView} {now id : Int} (h : freeIn v now = true) (hid : id = 2 ∨ id = 3) : holdsIn v id now = false := by
 simp only [freeIn, Bool.and_eq_true, Bool.or_eq_true, decide_eq_true_eq] at h
 unfold holdsIn
 by_cases h1 : v.Jobs.Holder = id
 ·
  by_cases h2 : guessOf v now < v.Jobs.Until
  ·
   omega
  ·
   simp [h2]
 ·
  simp [h1]
end Go.G8
namespace Go.Proofs.YtcnioiieiebodaaGreat
open Go.RowKit Go.G8

end Go.Proofs.YtcnioiieiebodaaGreat

-- Decisions, without the program.
set_option linter.unusedSimpArgs false
set_option linter.unusedVariables false
namespace Go.Proofs.YtcnioiieiebodaaGreat
open Go.RowKit Go.G8

end Go.Proofs.YtcnioiieiebodaaGreat
namespace Go.G8
open Go.RowKit
open Go.Proofs.YtcnioiieiebodaaGreat
theorem no_inv {s : DSched} {now : Int} {o : DOp} (h : nextOp s now = some o) : s.Busy = false ∧ s.Seq ≠ 2000 ∧ ((o = ⟨5, 20, 0, 0, 0⟩ ∧ freeIn s.View now = true) ∨ (o = ⟨4, nfId s.View now, s.View.Jobs.Epoch, 0, 0⟩ ∧ nfOk s.View now = true ∧ holdsIn s.View s.Id now = true)) := by
 unfold nextOp at h
 split at h
 ·
  cases h
 rename_i h0
 have h0 : (!timeOk now || (s.Busy || (decide (s.Seq = 2000) || staleIn s.View s.Index))) = false := by simpa using h0
 simp only [Bool.or_eq_false_iff, decide_eq_false_iff_not] at h0
 refine ⟨h0.2.1, h0.2.2.1, ?_⟩
 split at h
 ·
  rename_i h1
  split at h
  ·
   rename_i h2
   cases h
   exact .inr ⟨rfl, h2, h1⟩
  ·
   cases h
 ·
  split at h
  ·
   rename_i h1
   cases h
   exact .inl ⟨rfl, h1⟩
  ·
   cases h
theorem nf_id {v : DView} {now : Int} (hv : jobsOk2 v.Jobs = true) (h : nfOk v now = true) : idOk (nfId v now) = true := by
 unfold nfOk at h
 simp only [decide_eq_true_eq] at h
 obtain ⟨d, t, e1, e2⟩ := due_first hv h
 have ho : OpenOk v.Jobs.Open := by
  simp only [jobsOk2, Bool.and_eq_true] at hv
  exact openOk_iff.1 hv.2.2.2.2.2
 unfold nfId
 rw [e2]
 rw [e1] at ho
 exact (ho.2 0 (by simp) d rfl).1
theorem jobs_epoch {j : DJobs} (hv : jobsOk2 j = true) : inb j.Epoch 0 1000 = true := by
 simp only [jobsOk2, Bool.and_eq_true] at hv
 exact hv.2.2.2.1
theorem op_ok {s : DSched} {now : Int} {o : DOp} (hb : schedOkS s = true) (h : nextOp s now = some o) : opOk o = true ∧ (o.Kind = 4 ∨ o.Kind = 5) := by
 obtain ⟨p1, p2, p3, p4, p5, p6⟩ := schedOkS_parts hb
 obtain ⟨-, -, ⟨rfl, -⟩ | ⟨rfl, h1, -⟩⟩ := no_inv h
 ·
  exact ⟨by decide, .inr rfl⟩
 ·
  refine ⟨?_, .inl rfl⟩
  have e1 := nf_id p3 h1
  have e2 := jobs_epoch p3
  simp [opOk, e1, e2]
theorem dec_ok {s : DSched} {now : Int} (hb : schedOkS s = true) : schedOkS (decided s now) = true := by
 cases h : nextOp s now with
 | none => rw [dec_same hb h]; exact hb
 | some o =>
  rw [dec_some hb h]
  obtain ⟨p1, p2, p3, p4, p5, p6⟩ := schedOkS_parts hb
  obtain ⟨-, q2, -⟩ := no_inv h
  obtain ⟨o1, o2⟩ := op_ok hb h
  exact schedOkS_busy p1 (by omega) (by omega) p3 p4.1 p4.2 o1 o2
theorem dec_again {s : DSched} {now : Int} (hb : schedOkS s = true) : decided (decided s now) now = decided s now := by
 cases h : nextOp s now with
 | none => rw [dec_same hb h, dec_same hb h]
 | some o =>
  have h1 := dec_ok (now := now) hb
  have h2 : nextOp (decided s now) now = none := by
   rw [dec_some hb h]
   exact no_head (.inr (.inl rfl))
  exact dec_same h1 h2
theorem asks_some {s : DSched} {now : Int} {o : DOp} (hb : schedOkS s = true) (h : nextOp s now = some o) : askByB (decided s now) = true ∧ askBy (decided s now) = ⟨s.Id, s.Seq + 1, o⟩ := by
 have h1 := dec_ok (now := now) hb
 have h2 : (decided s now).Busy = true := by rw [dec_some hb h]
 have e1 : askByB (decided s now) = true := by unfold askByB; rw [h1, h2]; rfl
 refine ⟨e1, ?_⟩
 unfold askBy
 rw [if_pos (by rw [h1, h2]; rfl), dec_some hb h]
end Go.G8
namespace Go.Proofs.YtcnioiieiebodaaGreat
open Go.RowKit Go.G8

end Go.Proofs.YtcnioiieiebodaaGreat
