/- Whether a list of open jobs, with its lease, is valid: the reference. -/
import Derived.Test.YthegnmdknenefaaV2
namespace Go.Proofs.Ythegnmdknenefaa
open Go.RowKit Go.G8

set_option maxHeartbeats 400000 in
theorem l11Sched_c (w : World) (x : Int) : Calls Try.prog 107 #[.int .i64 x] w fun e w' => e = .returned (.bool (schedOk x)) ∧ w = w' := by
  by_cases h2 : x = 2
  · subst h2
    go_enter Try.func107, Try.ntmps107
    go_wp2
    go_ret
    exact ⟨rfl, rfl⟩
  · have e2 : (x == 2) = false := by simpa using h2
    by_cases h3 : x = 3
    · subst h3
      go_enter Try.func107, Try.ntmps107
      go_wp2
      go_ret
      exact ⟨rfl, rfl⟩
    · have e3 : (x == 3) = false := by simpa using h3
      go_enter Try.func107, Try.ntmps107
      go_wp2
      go_ret
      exact ⟨by simp [schedOk, e2, e3], rfl⟩
set_option maxHeartbeats 400000 in
theorem l16Who_c (w : World) (x : Int) : Calls Try.prog 57 #[.int .i64 x] w fun e w' => e = .returned (.bool (schedOk x)) ∧ w = w' := by
  by_cases h2 : x = 2
  · subst h2
    go_enter Try.func57, Try.ntmps57
    go_wp2
    go_ret
    exact ⟨rfl, rfl⟩
  · have e2 : (x == 2) = false := by simpa using h2
    by_cases h3 : x = 3
    · subst h3
      go_enter Try.func57, Try.ntmps57
      go_wp2
      go_ret
      exact ⟨rfl, rfl⟩
    · have e3 : (x == 3) = false := by simpa using h3
      go_enter Try.func57, Try.ntmps57
      go_wp2
      go_ret
      exact ⟨by simp [schedOk, e2, e3], rfl⟩
set_option maxHeartbeats 400000 in
theorem schedOk_c (w : World) (x : Int) : Calls Try.prog 62 #[.int .i64 x] w fun e w' => e = .returned (.bool (schedOk x)) ∧ w = w' := by
  by_cases h2 : x = 2
  · subst h2
    go_enter Try.func62, Try.ntmps62
    go_wp2
    go_ret
    exact ⟨rfl, rfl⟩
  · have e2 : (x == 2) = false := by simpa using h2
    by_cases h3 : x = 3
    · subst h3
      go_enter Try.func62, Try.ntmps62
      go_wp2
      go_ret
      exact ⟨rfl, rfl⟩
    · have e3 : (x == 3) = false := by simpa using h3
      go_enter Try.func62, Try.ntmps62
      go_wp2
      go_ret
      exact ⟨by simp [schedOk, e2, e3], rfl⟩

set_option maxHeartbeats 1600000 in
theorem sJobsOk2_c (w : World) (j : DJobs) (s : Value) (h : Ints 2 w s (dues j.Open)) : Calls Try.prog 90 #[.agg #[.int .i64 j.Index, .int .i64 j.Time, .int .i64 j.Holder, .int .i64 j.Epoch, .int .i64 j.Until, s]] w (RetV w (.bool (jobsOk2 j))) := by
  obtain ⟨a, n, c, rfl⟩ := h.shape
  by_cases hH : j.Holder = 0
  · have hH' : (j.Holder == 0) = true := by simpa using hH
    clear hH
    go_enter Try.func90, Try.ntmps90
    go_wp2_with (first | (go_at_call 58; refine (l1In_c _ _ _ _).mono ?_; rintro e w1 ⟨rfl, rfl⟩) | (go_at_call 94; refine (sTimeOk_c _ _).mono ?_; rintro e w1 ⟨rfl, rfl⟩) | (go_at_call 107; refine (l11Sched_c _ _).mono ?_; rintro e w1 ⟨rfl, rfl⟩) | (go_at_call 108; refine (l11Open_c _ _ _ (h.ext (by repeat' (first | (with_reducible exact Ext.refl _) | (with_reducible assumption) | (with_reducible refine Ext.drewN ?_ _) | (with_reducible refine Ext.drew ?_) | (with_reducible refine Ext.alloc ?_ _) | (with_reducible refine Ext.setCell ?_ ?_ _) | (with_reducible exact Nat.le_refl _) | (with_reducible refine Ext.trans ?_ (by assumption)) | omega)))).mono ?_; rintro e w1 ⟨rfl, hx1⟩))
    all_goals
      go_ret
      refine ⟨congrArg (fun z => Ending.returned (.bool z)) ?_, ?_⟩
      · simp [jobsOk2, *]
      · repeat' (first | (with_reducible exact Ext.refl _) | (with_reducible assumption) | (with_reducible refine Ext.drewN ?_ _) | (with_reducible refine Ext.drew ?_) | (with_reducible refine Ext.alloc ?_ _) | (with_reducible refine Ext.setCell ?_ ?_ _) | (with_reducible exact Nat.le_refl _) | (with_reducible refine Ext.trans ?_ (by assumption)) | omega)
  · have hH' : (j.Holder == 0) = false := by simpa using hH
    clear hH
    go_enter Try.func90, Try.ntmps90
    go_wp2_with (first | (go_at_call 58; refine (l1In_c _ _ _ _).mono ?_; rintro e w1 ⟨rfl, rfl⟩) | (go_at_call 94; refine (sTimeOk_c _ _).mono ?_; rintro e w1 ⟨rfl, rfl⟩) | (go_at_call 107; refine (l11Sched_c _ _).mono ?_; rintro e w1 ⟨rfl, rfl⟩) | (go_at_call 108; refine (l11Open_c _ _ _ (h.ext (by repeat' (first | (with_reducible exact Ext.refl _) | (with_reducible assumption) | (with_reducible refine Ext.drewN ?_ _) | (with_reducible refine Ext.drew ?_) | (with_reducible refine Ext.alloc ?_ _) | (with_reducible refine Ext.setCell ?_ ?_ _) | (with_reducible exact Nat.le_refl _) | (with_reducible refine Ext.trans ?_ (by assumption)) | omega)))).mono ?_; rintro e w1 ⟨rfl, hx1⟩))
    all_goals
      go_ret
      refine ⟨congrArg (fun z => Ending.returned (.bool z)) ?_, ?_⟩
      · simp [jobsOk2, *]
      · repeat' (first | (with_reducible exact Ext.refl _) | (with_reducible assumption) | (with_reducible refine Ext.drewN ?_ _) | (with_reducible refine Ext.drew ?_) | (with_reducible refine Ext.alloc ?_ _) | (with_reducible refine Ext.setCell ?_ ?_ _) | (with_reducible exact Nat.le_refl _) | (with_reducible refine Ext.trans ?_ (by assumption)) | omega)
end Go.Proofs.Ythegnmdknenefaa
