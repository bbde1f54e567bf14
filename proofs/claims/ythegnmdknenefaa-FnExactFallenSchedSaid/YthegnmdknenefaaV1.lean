import Derived.Test.YthegnmdknenefaaHelpA
import Derived.Test.YthegnmdknenefaaModel
namespace Go.Proofs.Ythegnmdknenefaa
open Go.RowKit Go.G8

set_option maxHeartbeats 400000 in
theorem l1In_c (w : World) (x lo hi : Int) : Calls Try.prog 58 #[.int .i64 x, .int .i64 lo, .int .i64 hi] w fun e w' => e = .returned (.bool (inb x lo hi)) ∧ w = w' := by
  by_cases h1 : lo ≤ x
  · by_cases h2 : x ≤ hi
    · rw [inb_of h1 h2]
      go_enter Try.func58, Try.ntmps58
      go_wp2
      go_ret
      exact ⟨rfl, rfl⟩
    · rw [inb_hi (by omega)]
      go_enter Try.func58, Try.ntmps58
      go_wp2
      go_ret
      exact ⟨rfl, rfl⟩
  · rw [inb_lo (by omega)]
    go_enter Try.func58, Try.ntmps58
    go_wp2
    go_ret
    exact ⟨rfl, rfl⟩
set_option maxHeartbeats 400000 in
theorem between_c (w : World) (x lo hi : Int) : Calls Try.prog 63 #[.int .i64 x, .int .i64 lo, .int .i64 hi] w fun e w' => e = .returned (.bool (inb x lo hi)) ∧ w = w' := by
  by_cases h1 : lo ≤ x
  · by_cases h2 : x ≤ hi
    · rw [inb_of h1 h2]
      go_enter Try.func63, Try.ntmps63
      go_wp2
      go_ret
      exact ⟨rfl, rfl⟩
    · rw [inb_hi (by omega)]
      go_enter Try.func63, Try.ntmps63
      go_wp2
      go_ret
      exact ⟨rfl, rfl⟩
  · rw [inb_lo (by omega)]
    go_enter Try.func63, Try.ntmps63
    go_wp2
    go_ret
    exact ⟨rfl, rfl⟩
set_option maxHeartbeats 400000 in
theorem sTimeOk_c (w : World) (x : Int) : Calls Try.prog 94 #[.int .i64 x] w fun e w' => e = .returned (.bool (timeOk x)) ∧ w = w' := by
  go_enter Try.func94, Try.ntmps94
  go_wp2_with (first | (go_at_call 58; refine (l1In_c _ _ _ _).mono ?_; rintro e w1 ⟨rfl, rfl⟩))
  go_ret
  exact ⟨rfl, rfl⟩
set_option maxHeartbeats 400000 in
theorem l11DueLess_c (w : World) (a b : DDue) : Calls Try.prog 112 #[.agg #[.int .i64 a.Id, .int .i64 a.Due], .agg #[.int .i64 b.Id, .int .i64 b.Due]] w (RetV w (.bool (dueLess a b))) := by
  by_cases h1 : a.Due < b.Due
  · rw [dueLess_lt h1]
    go_enter Try.func112, Try.ntmps112
    go_wp2
    go_ret
    exact ⟨rfl, by repeat (with_reducible (first | exact Ext.refl _ | refine Ext.alloc ?_ _))⟩
  · by_cases h2 : a.Due = b.Due
    · have h2' : (a.Due == b.Due) = true := by simpa using h2
      by_cases h3 : a.Id < b.Id
      · rw [dueLess_id h2 h3]
        clear h2
        go_enter Try.func112, Try.ntmps112
        go_wp2
        go_ret
        exact ⟨rfl, by repeat (with_reducible (first | exact Ext.refl _ | refine Ext.alloc ?_ _))⟩
      · rw [dueLess_ge h2 h3]
        clear h2
        go_enter Try.func112, Try.ntmps112
        go_wp2
        go_ret
        exact ⟨rfl, by repeat (with_reducible (first | exact Ext.refl _ | refine Ext.alloc ?_ _))⟩
    · have h2' : (a.Due == b.Due) = false := by simpa using h2
      rw [dueLess_no h1 h2]
      clear h2
      go_enter Try.func112, Try.ntmps112
      go_wp2
      go_ret
      exact ⟨rfl, by repeat (with_reducible (first | exact Ext.refl _ | refine Ext.alloc ?_ _))⟩
set_option maxHeartbeats 400000 in
theorem dueLess_c (w : World) (a b : DDue) : Calls Try.prog 110 #[.agg #[.int .i64 a.Id, .int .i64 a.Due], .agg #[.int .i64 b.Id, .int .i64 b.Due]] w (RetV w (.bool (dueLess a b))) := by
  by_cases h1 : a.Due < b.Due
  · rw [dueLess_lt h1]
    go_enter Try.func110, Try.ntmps110
    go_wp2
    go_ret
    exact ⟨rfl, by repeat (with_reducible (first | exact Ext.refl _ | refine Ext.alloc ?_ _))⟩
  · by_cases h2 : a.Due = b.Due
    · have h2' : (a.Due == b.Due) = true := by simpa using h2
      by_cases h3 : a.Id < b.Id
      · rw [dueLess_id h2 h3]
        clear h2
        go_enter Try.func110, Try.ntmps110
        go_wp2
        go_ret
        exact ⟨rfl, by repeat (with_reducible (first | exact Ext.refl _ | refine Ext.alloc ?_ _))⟩
      · rw [dueLess_ge h2 h3]
        clear h2
        go_enter Try.func110, Try.ntmps110
        go_wp2
        go_ret
        exact ⟨rfl, by repeat (with_reducible (first | exact Ext.refl _ | refine Ext.alloc ?_ _))⟩
    · have h2' : (a.Due == b.Due) = false := by simpa using h2
      rw [dueLess_no h1 h2]
      clear h2
      go_enter Try.func110, Try.ntmps110
      go_wp2
      go_ret
      exact ⟨rfl, by repeat (with_reducible (first | exact Ext.refl _ | refine Ext.alloc ?_ _))⟩
set_option maxHeartbeats 400000 in
theorem l7Id_c (w : World) (x : Int) : Calls Try.prog 93 #[.int .i64 x] w fun e w' => e = .returned (.bool (idOk x)) ∧ w = w' := by
  go_enter Try.func93, Try.ntmps93
  go_wp2_with (first | (go_at_call 58; refine (l1In_c _ _ _ _).mono ?_; rintro e w1 ⟨rfl, rfl⟩))
  go_ret
  exact ⟨rfl, rfl⟩
set_option maxHeartbeats 400000 in
theorem l16Time_c (w : World) (x : Int) : Calls Try.prog 43 #[.int .i64 x] w fun e w' => e = .returned (.bool (timeOk x)) ∧ w = w' := by
  go_enter Try.func43, Try.ntmps43
  go_wp2_with (first | (go_at_call 58; refine (l1In_c _ _ _ _).mono ?_; rintro e w1 ⟨rfl, rfl⟩))
  go_ret
  exact ⟨rfl, rfl⟩
set_option maxHeartbeats 400000 in
theorem timeOk_c (w : World) (x : Int) : Calls Try.prog 79 #[.int .i64 x] w fun e w' => e = .returned (.bool (timeOk x)) ∧ w = w' := by
  go_enter Try.func79, Try.ntmps79
  go_wp2_with (first | (go_at_call 63; refine (between_c _ _ _ _).mono ?_; rintro e w1 ⟨rfl, rfl⟩))
  go_ret
  exact ⟨rfl, rfl⟩
set_option maxHeartbeats 400000 in
theorem idOk_c (w : World) (x : Int) : Calls Try.prog 99 #[.int .i64 x] w fun e w' => e = .returned (.bool (idOk x)) ∧ w = w' := by
  go_enter Try.func99, Try.ntmps99
  go_wp2_with (first | (go_at_call 63; refine (between_c _ _ _ _).mono ?_; rintro e w1 ⟨rfl, rfl⟩))
  go_ret
  exact ⟨rfl, rfl⟩
end Go.Proofs.Ythegnmdknenefaa
