import Derived.Test.YtonboladkbdpbaaHelpA
import Derived.Test.YtonboladkbdpbaaModel
namespace Go.Proofs.Ytonboladkbdpbaa
open Go.RowKit Go.G8

set_option maxHeartbeats 400000 in
theorem l1In_c (w : World) (x lo hi : Int) : Calls Try.prog 50 #[.int .i64 x, .int .i64 lo, .int .i64 hi] w fun e w' => e = .returned (.bool (inb x lo hi)) ∧ w = w' := by
  by_cases h1 : lo ≤ x
  · by_cases h2 : x ≤ hi
    · rw [inb_of h1 h2]
      go_enter Try.func50, Try.ntmps50
      go_wp2
      go_ret
      exact ⟨rfl, rfl⟩
    · rw [inb_hi (by omega)]
      go_enter Try.func50, Try.ntmps50
      go_wp2
      go_ret
      exact ⟨rfl, rfl⟩
  · rw [inb_lo (by omega)]
    go_enter Try.func50, Try.ntmps50
    go_wp2
    go_ret
    exact ⟨rfl, rfl⟩
set_option maxHeartbeats 400000 in
theorem between_c (w : World) (x lo hi : Int) : Calls Try.prog 53 #[.int .i64 x, .int .i64 lo, .int .i64 hi] w fun e w' => e = .returned (.bool (inb x lo hi)) ∧ w = w' := by
  by_cases h1 : lo ≤ x
  · by_cases h2 : x ≤ hi
    · rw [inb_of h1 h2]
      go_enter Try.func53, Try.ntmps53
      go_wp2
      go_ret
      exact ⟨rfl, rfl⟩
    · rw [inb_hi (by omega)]
      go_enter Try.func53, Try.ntmps53
      go_wp2
      go_ret
      exact ⟨rfl, rfl⟩
  · rw [inb_lo (by omega)]
    go_enter Try.func53, Try.ntmps53
    go_wp2
    go_ret
    exact ⟨rfl, rfl⟩
set_option maxHeartbeats 400000 in
theorem sTimeOk_c (w : World) (x : Int) : Calls Try.prog 59 #[.int .i64 x] w fun e w' => e = .returned (.bool (timeOk x)) ∧ w = w' := by
  go_enter Try.func59, Try.ntmps59
  go_wp2_with (first | (go_at_call 50; refine (l1In_c _ _ _ _).mono ?_; rintro e w1 ⟨rfl, rfl⟩))
  go_ret
  exact ⟨rfl, rfl⟩
set_option maxHeartbeats 400000 in
theorem l11DueLess_c (w : World) (a b : DDue) : Calls Try.prog 72 #[.agg #[.int .i64 a.Id, .int .i64 a.Due], .agg #[.int .i64 b.Id, .int .i64 b.Due]] w (RetV w (.bool (dueLess a b))) := by
  by_cases h1 : a.Due < b.Due
  · rw [dueLess_lt h1]
    go_enter Try.func72, Try.ntmps72
    go_wp2
    go_ret
    exact ⟨rfl, by repeat (with_reducible (first | exact Ext.refl _ | refine Ext.alloc ?_ _))⟩
  · by_cases h2 : a.Due = b.Due
    · have h2' : (a.Due == b.Due) = true := by simpa using h2
      by_cases h3 : a.Id < b.Id
      · rw [dueLess_id h2 h3]
        clear h2
        go_enter Try.func72, Try.ntmps72
        go_wp2
        go_ret
        exact ⟨rfl, by repeat (with_reducible (first | exact Ext.refl _ | refine Ext.alloc ?_ _))⟩
      · rw [dueLess_ge h2 h3]
        clear h2
        go_enter Try.func72, Try.ntmps72
        go_wp2
        go_ret
        exact ⟨rfl, by repeat (with_reducible (first | exact Ext.refl _ | refine Ext.alloc ?_ _))⟩
    · have h2' : (a.Due == b.Due) = false := by simpa using h2
      rw [dueLess_no h1 h2]
      clear h2
      go_enter Try.func72, Try.ntmps72
      go_wp2
      go_ret
      exact ⟨rfl, by repeat (with_reducible (first | exact Ext.refl _ | refine Ext.alloc ?_ _))⟩
set_option maxHeartbeats 400000 in
theorem dueLess_c (w : World) (a b : DDue) : Calls Try.prog 64 #[.agg #[.int .i64 a.Id, .int .i64 a.Due], .agg #[.int .i64 b.Id, .int .i64 b.Due]] w (RetV w (.bool (dueLess a b))) := by
  by_cases h1 : a.Due < b.Due
  · rw [dueLess_lt h1]
    go_enter Try.func64, Try.ntmps64
    go_wp2
    go_ret
    exact ⟨rfl, by repeat (with_reducible (first | exact Ext.refl _ | refine Ext.alloc ?_ _))⟩
  · by_cases h2 : a.Due = b.Due
    · have h2' : (a.Due == b.Due) = true := by simpa using h2
      by_cases h3 : a.Id < b.Id
      · rw [dueLess_id h2 h3]
        clear h2
        go_enter Try.func64, Try.ntmps64
        go_wp2
        go_ret
        exact ⟨rfl, by repeat (with_reducible (first | exact Ext.refl _ | refine Ext.alloc ?_ _))⟩
      · rw [dueLess_ge h2 h3]
        clear h2
        go_enter Try.func64, Try.ntmps64
        go_wp2
        go_ret
        exact ⟨rfl, by repeat (with_reducible (first | exact Ext.refl _ | refine Ext.alloc ?_ _))⟩
    · have h2' : (a.Due == b.Due) = false := by simpa using h2
      rw [dueLess_no h1 h2]
      clear h2
      go_enter Try.func64, Try.ntmps64
      go_wp2
      go_ret
      exact ⟨rfl, by repeat (with_reducible (first | exact Ext.refl _ | refine Ext.alloc ?_ _))⟩
set_option maxHeartbeats 400000 in
theorem l7Id_c (w : World) (x : Int) : Calls Try.prog 69 #[.int .i64 x] w fun e w' => e = .returned (.bool (idOk x)) ∧ w = w' := by
  go_enter Try.func69, Try.ntmps69
  go_wp2_with (first | (go_at_call 50; refine (l1In_c _ _ _ _).mono ?_; rintro e w1 ⟨rfl, rfl⟩))
  go_ret
  exact ⟨rfl, rfl⟩
set_option maxHeartbeats 400000 in
theorem l16Time_c (w : World) (x : Int) : Calls Try.prog 56 #[.int .i64 x] w fun e w' => e = .returned (.bool (timeOk x)) ∧ w = w' := by
  go_enter Try.func56, Try.ntmps56
  go_wp2_with (first | (go_at_call 50; refine (l1In_c _ _ _ _).mono ?_; rintro e w1 ⟨rfl, rfl⟩))
  go_ret
  exact ⟨rfl, rfl⟩
set_option maxHeartbeats 400000 in
theorem timeOk_c (w : World) (x : Int) : Calls Try.prog 58 #[.int .i64 x] w fun e w' => e = .returned (.bool (timeOk x)) ∧ w = w' := by
  go_enter Try.func58, Try.ntmps58
  go_wp2_with (first | (go_at_call 53; refine (between_c _ _ _ _).mono ?_; rintro e w1 ⟨rfl, rfl⟩))
  go_ret
  exact ⟨rfl, rfl⟩
set_option maxHeartbeats 400000 in
theorem idOk_c (w : World) (x : Int) : Calls Try.prog 63 #[.int .i64 x] w fun e w' => e = .returned (.bool (idOk x)) ∧ w = w' := by
  go_enter Try.func63, Try.ntmps63
  go_wp2_with (first | (go_at_call 53; refine (between_c _ _ _ _).mono ?_; rintro e w1 ⟨rfl, rfl⟩))
  go_ret
  exact ⟨rfl, rfl⟩
end Go.Proofs.Ytonboladkbdpbaa
