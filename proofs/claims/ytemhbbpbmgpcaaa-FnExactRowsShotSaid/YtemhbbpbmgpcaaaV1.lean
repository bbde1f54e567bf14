import Derived.Test.YtemhbbpbmgpcaaaHelpA
import Derived.Test.YtemhbbpbmgpcaaaModel
namespace Go.Proofs.Ytemhbbpbmgpcaaa
open Go.RowKit Go.G8

set_option maxHeartbeats 400000 in
theorem l1In_c (w : World) (x lo hi : Int) : Calls Try.prog 44 #[.int .i64 x, .int .i64 lo, .int .i64 hi] w fun e w' => e = .returned (.bool (inb x lo hi)) ∧ w = w' := by
  by_cases h1 : lo ≤ x
  · by_cases h2 : x ≤ hi
    · rw [inb_of h1 h2]
      go_enter Try.func44, Try.ntmps44
      go_wp2
      go_ret
      exact ⟨rfl, rfl⟩
    · rw [inb_hi (by omega)]
      go_enter Try.func44, Try.ntmps44
      go_wp2
      go_ret
      exact ⟨rfl, rfl⟩
  · rw [inb_lo (by omega)]
    go_enter Try.func44, Try.ntmps44
    go_wp2
    go_ret
    exact ⟨rfl, rfl⟩
set_option maxHeartbeats 400000 in
theorem between_c (w : World) (x lo hi : Int) : Calls Try.prog 55 #[.int .i64 x, .int .i64 lo, .int .i64 hi] w fun e w' => e = .returned (.bool (inb x lo hi)) ∧ w = w' := by
  by_cases h1 : lo ≤ x
  · by_cases h2 : x ≤ hi
    · rw [inb_of h1 h2]
      go_enter Try.func55, Try.ntmps55
      go_wp2
      go_ret
      exact ⟨rfl, rfl⟩
    · rw [inb_hi (by omega)]
      go_enter Try.func55, Try.ntmps55
      go_wp2
      go_ret
      exact ⟨rfl, rfl⟩
  · rw [inb_lo (by omega)]
    go_enter Try.func55, Try.ntmps55
    go_wp2
    go_ret
    exact ⟨rfl, rfl⟩
set_option maxHeartbeats 400000 in
theorem l16Time_c (w : World) (x : Int) : Calls Try.prog 80 #[.int .i64 x] w fun e w' => e = .returned (.bool (timeOk x)) ∧ w = w' := by
  go_enter Try.func80, Try.ntmps80
  go_wp2_with (first | (go_at_call 44; refine (l1In_c _ _ _ _).mono ?_; rintro e w1 ⟨rfl, rfl⟩))
  go_ret
  exact ⟨rfl, rfl⟩
set_option maxHeartbeats 400000 in
theorem timeOk_c (w : World) (x : Int) : Calls Try.prog 86 #[.int .i64 x] w fun e w' => e = .returned (.bool (timeOk x)) ∧ w = w' := by
  go_enter Try.func86, Try.ntmps86
  go_wp2_with (first | (go_at_call 55; refine (between_c _ _ _ _).mono ?_; rintro e w1 ⟨rfl, rfl⟩))
  go_ret
  exact ⟨rfl, rfl⟩
set_option maxHeartbeats 400000 in
theorem idOk_c (w : World) (x : Int) : Calls Try.prog 101 #[.int .i64 x] w fun e w' => e = .returned (.bool (idOk x)) ∧ w = w' := by
  go_enter Try.func101, Try.ntmps101
  go_wp2_with (first | (go_at_call 55; refine (between_c _ _ _ _).mono ?_; rintro e w1 ⟨rfl, rfl⟩))
  go_ret
  exact ⟨rfl, rfl⟩
end Go.Proofs.Ytemhbbpbmgpcaaa
