import Derived.Test.YtfeddckbbhgpfaaHelpA
import Derived.Test.YtfeddckbbhgpfaaModel
namespace Go.Proofs.Ytfeddckbbhgpfaa
open Go.RowKit Go.G8

set_option maxHeartbeats 400000 in
theorem l1In_c (w : World) (x lo hi : Int) : Calls Try.prog 48 #[.int .i64 x, .int .i64 lo, .int .i64 hi] w fun e w' => e = .returned (.bool (inb x lo hi)) ∧ w = w' := by
  by_cases h1 : lo ≤ x
  · by_cases h2 : x ≤ hi
    · rw [inb_of h1 h2]
      go_enter Try.func48, Try.ntmps48
      go_wp2
      go_ret
      exact ⟨rfl, rfl⟩
    · rw [inb_hi (by omega)]
      go_enter Try.func48, Try.ntmps48
      go_wp2
      go_ret
      exact ⟨rfl, rfl⟩
  · rw [inb_lo (by omega)]
    go_enter Try.func48, Try.ntmps48
    go_wp2
    go_ret
    exact ⟨rfl, rfl⟩
set_option maxHeartbeats 400000 in
theorem between_c (w : World) (x lo hi : Int) : Calls Try.prog 49 #[.int .i64 x, .int .i64 lo, .int .i64 hi] w fun e w' => e = .returned (.bool (inb x lo hi)) ∧ w = w' := by
  by_cases h1 : lo ≤ x
  · by_cases h2 : x ≤ hi
    · rw [inb_of h1 h2]
      go_enter Try.func49, Try.ntmps49
      go_wp2
      go_ret
      exact ⟨rfl, rfl⟩
    · rw [inb_hi (by omega)]
      go_enter Try.func49, Try.ntmps49
      go_wp2
      go_ret
      exact ⟨rfl, rfl⟩
  · rw [inb_lo (by omega)]
    go_enter Try.func49, Try.ntmps49
    go_wp2
    go_ret
    exact ⟨rfl, rfl⟩
set_option maxHeartbeats 400000 in
theorem sTimeOk_c (w : World) (x : Int) : Calls Try.prog 55 #[.int .i64 x] w fun e w' => e = .returned (.bool (timeOk x)) ∧ w = w' := by
  go_enter Try.func55, Try.ntmps55
  go_wp2_with (first | (go_at_call 48; refine (l1In_c _ _ _ _).mono ?_; rintro e w1 ⟨rfl, rfl⟩))
  go_ret
  exact ⟨rfl, rfl⟩
set_option maxHeartbeats 400000 in
theorem l11DueLess_c (w : World) (a b : DDue) : Calls Try.prog 65 #[.agg #[.int .i64 a.Id, .int .i64 a.Due], .agg #[.int .i64 b.Id, .int .i64 b.Due]] w (RetV w (.bool (dueLess a b))) := by
  by_cases h1 : a.Due < b.Due
  · rw [dueLess_lt h1]
    go_enter Try.func65, Try.ntmps65
    go_wp2
    go_ret
    exact ⟨rfl, by repeat (with_reducible (first | exact Ext.refl _ | refine Ext.alloc ?_ _))⟩
  · by_cases h2 : a.Due = b.Due
    · have h2' : (a.Due == b.Due) = true := by simpa using h2
      by_cases h3 : a.Id < b.Id
      · rw [dueLess_id h2 h3]
        clear h2
        go_enter Try.func65, Try.ntmps65
        go_wp2
        go_ret
        exact ⟨rfl, by repeat (with_reducible (first | exact Ext.refl _ | refine Ext.alloc ?_ _))⟩
      · rw [dueLess_ge h2 h3]
        clear h2
        go_enter Try.func65, Try.ntmps65
        go_wp2
        go_ret
        exact ⟨rfl, by repeat (with_reducible (first | exact Ext.refl _ | refine Ext.alloc ?_ _))⟩
    · have h2' : (a.Due == b.Due) = false := by simpa using h2
      rw [dueLess_no h1 h2]
      clear h2
      go_enter Try.func65, Try.ntmps65
      go_wp2
      go_ret
      exact ⟨rfl, by repeat (with_reducible (first | exact Ext.refl _ | refine Ext.alloc ?_ _))⟩
set_option maxHeartbeats 400000 in
theorem dueLess_c (w : World) (a b : DDue) : Calls Try.prog 60 #[.agg #[.int .i64 a.Id, .int .i64 a.Due], .agg #[.int .i64 b.Id, .int .i64 b.Due]] w (RetV w (.bool (dueLess a b))) := by
  by_cases h1 : a.Due < b.Due
  · rw [dueLess_lt h1]
    go_enter Try.func60, Try.ntmps60
    go_wp2
    go_ret
    exact ⟨rfl, by repeat (with_reducible (first | exact Ext.refl _ | refine Ext.alloc ?_ _))⟩
  · by_cases h2 : a.Due = b.Due
    · have h2' : (a.Due == b.Due) = true := by simpa using h2
      by_cases h3 : a.Id < b.Id
      · rw [dueLess_id h2 h3]
        clear h2
        go_enter Try.func60, Try.ntmps60
        go_wp2
        go_ret
        exact ⟨rfl, by repeat (with_reducible (first | exact Ext.refl _ | refine Ext.alloc ?_ _))⟩
      · rw [dueLess_ge h2 h3]
        clear h2
        go_enter Try.func60, Try.ntmps60
        go_wp2
        go_ret
        exact ⟨rfl, by repeat (with_reducible (first | exact Ext.refl _ | refine Ext.alloc ?_ _))⟩
    · have h2' : (a.Due == b.Due) = false := by simpa using h2
      rw [dueLess_no h1 h2]
      clear h2
      go_enter Try.func60, Try.ntmps60
      go_wp2
      go_ret
      exact ⟨rfl, by repeat (with_reducible (first | exact Ext.refl _ | refine Ext.alloc ?_ _))⟩
set_option maxHeartbeats 400000 in
theorem l7Id_c (w : World) (x : Int) : Calls Try.prog 64 #[.int .i64 x] w fun e w' => e = .returned (.bool (idOk x)) ∧ w = w' := by
  go_enter Try.func64, Try.ntmps64
  go_wp2_with (first | (go_at_call 48; refine (l1In_c _ _ _ _).mono ?_; rintro e w1 ⟨rfl, rfl⟩))
  go_ret
  exact ⟨rfl, rfl⟩
set_option maxHeartbeats 400000 in
theorem l16Time_c (w : World) (x : Int) : Calls Try.prog 45 #[.int .i64 x] w fun e w' => e = .returned (.bool (timeOk x)) ∧ w = w' := by
  go_enter Try.func45, Try.ntmps45
  go_wp2_with (first | (go_at_call 48; refine (l1In_c _ _ _ _).mono ?_; rintro e w1 ⟨rfl, rfl⟩))
  go_ret
  exact ⟨rfl, rfl⟩
set_option maxHeartbeats 400000 in
theorem timeOk_c (w : World) (x : Int) : Calls Try.prog 47 #[.int .i64 x] w fun e w' => e = .returned (.bool (timeOk x)) ∧ w = w' := by
  go_enter Try.func47, Try.ntmps47
  go_wp2_with (first | (go_at_call 49; refine (between_c _ _ _ _).mono ?_; rintro e w1 ⟨rfl, rfl⟩))
  go_ret
  exact ⟨rfl, rfl⟩
set_option maxHeartbeats 400000 in
theorem idOk_c (w : World) (x : Int) : Calls Try.prog 59 #[.int .i64 x] w fun e w' => e = .returned (.bool (idOk x)) ∧ w = w' := by
  go_enter Try.func59, Try.ntmps59
  go_wp2_with (first | (go_at_call 49; refine (between_c _ _ _ _).mono ?_; rintro e w1 ⟨rfl, rfl⟩))
  go_ret
  exact ⟨rfl, rfl⟩
end Go.Proofs.Ytfeddckbbhgpfaa
