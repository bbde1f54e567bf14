/- Whether a list of open jobs, with its lease, is valid: the program, where the head fails. -/
import Derived.Test.YthegnmdknenefaaV3
namespace Go.Proofs.Ythegnmdknenefaa
open Go.RowKit Go.G8

theorem zb (w : World) : (zeroValue 4).run Try.prog w = .ok (.bool false) w := by kernel_rfl

set_option maxHeartbeats 3200000 in
theorem jobsOk2_bad (w : World) (j : DJobs) (s : Value) (h : Ints 2 w s (dues j.Open)) (hbad : ¬ (inb j.Index 0 2000 = true ∧ timeOk j.Time = true ∧ (j.Holder == 0 || schedOk j.Holder) = true ∧ inb j.Epoch 0 1000 = true ∧ inb j.Until 0 1001000 = true ∧ j.Open.length ≤ 8)) : Calls Try.prog 96 #[.agg #[.int .i64 j.Index, .int .i64 j.Time, .int .i64 j.Holder, .int .i64 j.Epoch, .int .i64 j.Until, s]] w (RetV w (.bool (jobsOk2 j))) := by
  obtain ⟨a, cap, rfl, hcap, hm, ha⟩ := h.recs (f := DDue.ints) (fun _ => rfl) (by decide)
  have HA := Lib.hid ha
  clear ha
  unfold maxLen at hm
  have hmm := @run_makeMap Try.prog
  have hb0 : jobsOk2 j = false := by
    have e8 : ¬ j.Open.length ≤ 8 → openOk j.Open = false := fun hn => openOk_false (fun hh => hn hh.1)
    cases h1 : inb j.Index 0 2000 <;> cases h2 : timeOk j.Time <;> cases h3 : (j.Holder == 0 || schedOk j.Holder) <;> cases h4 : inb j.Epoch 0 1000 <;> cases h5 : inb j.Until 0 1001000 <;> simp only [jobsOk2, h1, h2, h3, h4, h5, Bool.false_and, Bool.and_false, Bool.true_and]
    exact e8 (fun h8 => hbad ⟨h1, h2, h3, h4, h5, h8⟩)
  rw [hb0]
  have HBD := Lib.hid hbad
  clear hb0 hbad
  by_cases hH : j.Holder = 0
  · have hH' : (j.Holder == 0) = true := by simpa using hH
    have hH2 : (j.Holder != 0) = false := by simpa using hH
    clear hH
    go_enter Try.func96, Try.ntmps96
    go_wp2_with (first | (go_at_call 63; refine (between_c _ _ _ _).mono ?_; rintro e w1 ⟨rfl, rfl⟩) | (go_at_call 79; refine (timeOk_c _ _).mono ?_; rintro e w1 ⟨rfl, rfl⟩) | (go_at_call 62; refine (schedOk_c _ _).mono ?_; rintro e w1 ⟨rfl, rfl⟩))
    all_goals try (go_ret; refine ⟨rfl, ?_⟩; (repeat' (first | (with_reducible exact Ext.refl _) | (with_reducible assumption) | (with_reducible refine Ext.drewN ?_ _) | (with_reducible refine Ext.drew ?_) | (with_reducible refine Ext.alloc ?_ _) | (with_reducible refine Ext.setCell ?_ ?_ _) | (with_reducible exact Nat.le_refl _) | (with_reducible refine Ext.trans ?_ (by assumption)) | omega)); done)
    exfalso
    refine HBD.out ⟨?_, ?_, ?_, ?_, ?_, ?_⟩
    all_goals first | assumption | omega | (rw [Bool.or_eq_true]; first | exact .inl hH' | exact .inr (by simpa using ‹(!schedOk j.Holder) = false›))
  · have hH' : (j.Holder == 0) = false := by simpa using hH
    have hH2 : (j.Holder != 0) = true := by simpa using hH
    clear hH
    go_enter Try.func96, Try.ntmps96
    go_wp2_with (first | (go_at_call 63; refine (between_c _ _ _ _).mono ?_; rintro e w1 ⟨rfl, rfl⟩) | (go_at_call 79; refine (timeOk_c _ _).mono ?_; rintro e w1 ⟨rfl, rfl⟩) | (go_at_call 62; refine (schedOk_c _ _).mono ?_; rintro e w1 ⟨rfl, rfl⟩))
    all_goals try (go_ret; refine ⟨rfl, ?_⟩; (repeat' (first | (with_reducible exact Ext.refl _) | (with_reducible assumption) | (with_reducible refine Ext.drewN ?_ _) | (with_reducible refine Ext.drew ?_) | (with_reducible refine Ext.alloc ?_ _) | (with_reducible refine Ext.setCell ?_ ?_ _) | (with_reducible exact Nat.le_refl _) | (with_reducible refine Ext.trans ?_ (by assumption)) | omega)); done)
    exfalso
    refine HBD.out ⟨?_, ?_, ?_, ?_, ?_, ?_⟩
    all_goals first | assumption | omega | (rw [Bool.or_eq_true]; first | exact .inl hH' | exact .inr (by simpa using ‹(!schedOk j.Holder) = false›))
end Go.Proofs.Ythegnmdknenefaa
