/- Operations: right or not. -/
import Derived.Test.YthegnmdknenefaaV7
import Derived.Test.YthegnmdknenefaaDat
namespace Go.Proofs.Ythegnmdknenefaa
open Go.RowKit Go.G8


theorem inb_iff {x lo hi : Int} : inb x lo hi = decide (lo ≤ x ∧ x ≤ hi) := rfl
def opOk (o : DOp) : Bool :=
  if o.Kind = 1 then inb o.A 0 9 && (inb o.B 0 999 && (decide (o.C = 0) && decide (o.D = 0)))
  else if o.Kind = 2 then inb o.A 0 9 && (decide (o.B = 0) && (decide (o.C = 0) && decide (o.D = 0)))
  else if o.Kind = 3 then idOk o.A && (timeOk o.B && (inb o.C 0 9 && inb o.D 0 999))
  else if o.Kind = 4 then idOk o.A && (inb o.B 0 1000 && (decide (o.C = 0) && decide (o.D = 0)))
  else if o.Kind = 5 then inb o.A 1 1000 && (decide (o.B = 0) && (decide (o.C = 0) && decide (o.D = 0)))
  else false
def opZ (o : DOp) : Bool := decide (o.Kind = 0 ∧ o.A = 0 ∧ o.B = 0 ∧ o.C = 0 ∧ o.D = 0)
def askOk (a : DAsk) : Bool := inb a.Client 2 5 && (inb a.Seq 1 2000 && opOk a.Op)
def ackOk (a : DAck) : Bool := inb a.Client 2 5 && (inb a.Seq 1 2000 && (inb a.Last a.Seq 2000 && (if a.Seq < a.Last then decide (a.Index = 0) else inb a.Index 1 2000)))
noncomputable def schedOkS (s : DSched) : Bool := schedOk s.Id && (inb s.Seq 0 2000 && (jobsOk2 s.View.Jobs && (inb s.Index 0 2000 && (if s.Busy then decide (0 < s.Seq) && (opOk s.Op && (decide (s.Op.Kind = 4) || decide (s.Op.Kind = 5))) else opZ s.Op))))
theorem sJobsOk2_l (w : World) (c0_0 : Int) (c0_1 : Int) (c0_2 : Int) (c0_3 : Int) (c0_4 : Int) (s0_5 : Value) (l0_5 : List DDue) (h0_5 : Ints 2 w s0_5 (dues l0_5)) :
    Calls Try.prog 90 #[.agg #[.int .i64 c0_0, .int .i64 c0_1, .int .i64 c0_2, .int .i64 c0_3, .int .i64 c0_4, s0_5]] w (RetV w (.bool (jobsOk2 (⟨c0_0, c0_1, c0_2, c0_3, c0_4, l0_5⟩ : DJobs)))) := sJobsOk2_c w (⟨c0_0, c0_1, c0_2, c0_3, c0_4, l0_5⟩ : DJobs) s0_5 h0_5
theorem jobsOk2_l (w : World) (c0_0 : Int) (c0_1 : Int) (c0_2 : Int) (c0_3 : Int) (c0_4 : Int) (s0_5 : Value) (l0_5 : List DDue) (h0_5 : Ints 2 w s0_5 (dues l0_5)) :
    Calls Try.prog 96 #[.agg #[.int .i64 c0_0, .int .i64 c0_1, .int .i64 c0_2, .int .i64 c0_3, .int .i64 c0_4, s0_5]] w (RetV w (.bool (jobsOk2 (⟨c0_0, c0_1, c0_2, c0_3, c0_4, l0_5⟩ : DJobs)))) := jobsOk2_c w (⟨c0_0, c0_1, c0_2, c0_3, c0_4, l0_5⟩ : DJobs) s0_5 h0_5
theorem sViewOk_l (w : World) (c0_0 : Int) (c0_1 : Int) (c0_2 : Int) (c0_3 : Int) (c0_4 : Int) (s0_5 : Value) (l0_5 : List DDue) (h0_5 : Ints 2 w s0_5 (dues l0_5)) :
    Calls Try.prog 59 #[.agg #[.int .i64 c0_0, .int .i64 c0_1, .int .i64 c0_2, .int .i64 c0_3, .int .i64 c0_4, s0_5]] w (RetV w (.bool (jobsOk2 (⟨⟨c0_0, c0_1, c0_2, c0_3, c0_4, l0_5⟩⟩ : DView).Jobs))) := sViewOk_c w (⟨⟨c0_0, c0_1, c0_2, c0_3, c0_4, l0_5⟩⟩ : DView) s0_5 h0_5
theorem viewOk_l (w : World) (c0_0 : Int) (c0_1 : Int) (c0_2 : Int) (c0_3 : Int) (c0_4 : Int) (s0_5 : Value) (l0_5 : List DDue) (h0_5 : Ints 2 w s0_5 (dues l0_5)) :
    Calls Try.prog 64 #[.agg #[.int .i64 c0_0, .int .i64 c0_1, .int .i64 c0_2, .int .i64 c0_3, .int .i64 c0_4, s0_5]] w (RetV w (.bool (jobsOk2 (⟨⟨c0_0, c0_1, c0_2, c0_3, c0_4, l0_5⟩⟩ : DView).Jobs))) := viewOk_c w (⟨⟨c0_0, c0_1, c0_2, c0_3, c0_4, l0_5⟩⟩ : DView) s0_5 h0_5
theorem sStaleIn_l (w : World) (c0_0 : Int) (c0_1 : Int) (c0_2 : Int) (c0_3 : Int) (c0_4 : Int) (s0_5 : Value) (l0_5 : List DDue) (c1_0 : Int) (h0_5 : Ints 2 w s0_5 (dues l0_5)) :
    Calls Try.prog 44 #[.agg #[.int .i64 c0_0, .int .i64 c0_1, .int .i64 c0_2, .int .i64 c0_3, .int .i64 c0_4, s0_5], .int .i64 c1_0] w (RetV w (.bool (staleIn (⟨⟨c0_0, c0_1, c0_2, c0_3, c0_4, l0_5⟩⟩ : DView) c1_0))) := sStaleIn_c w (⟨⟨c0_0, c0_1, c0_2, c0_3, c0_4, l0_5⟩⟩ : DView) s0_5 c1_0 h0_5
theorem staleIn_l (w : World) (c0_0 : Int) (c0_1 : Int) (c0_2 : Int) (c0_3 : Int) (c0_4 : Int) (s0_5 : Value) (l0_5 : List DDue) (c1_0 : Int) (h0_5 : Ints 2 w s0_5 (dues l0_5)) :
    Calls Try.prog 80 #[.agg #[.int .i64 c0_0, .int .i64 c0_1, .int .i64 c0_2, .int .i64 c0_3, .int .i64 c0_4, s0_5], .int .i64 c1_0] w (RetV w (.bool (staleIn (⟨⟨c0_0, c0_1, c0_2, c0_3, c0_4, l0_5⟩⟩ : DView) c1_0))) := staleIn_c w (⟨⟨c0_0, c0_1, c0_2, c0_3, c0_4, l0_5⟩⟩ : DView) s0_5 c1_0 h0_5
theorem sGuessOf_l (w : World) (c0_0 : Int) (c0_1 : Int) (c0_2 : Int) (c0_3 : Int) (c0_4 : Int) (s0_5 : Value) (l0_5 : List DDue) (c1_0 : Int) (h0_5 : Ints 2 w s0_5 (dues l0_5)) :
    Calls Try.prog 78 #[.agg #[.int .i64 c0_0, .int .i64 c0_1, .int .i64 c0_2, .int .i64 c0_3, .int .i64 c0_4, s0_5], .int .i64 c1_0] w (RetV w (.int .i64 (guessOf (⟨⟨c0_0, c0_1, c0_2, c0_3, c0_4, l0_5⟩⟩ : DView) c1_0))) := sGuessOf_c w (⟨⟨c0_0, c0_1, c0_2, c0_3, c0_4, l0_5⟩⟩ : DView) s0_5 c1_0 h0_5
theorem guessOf_l (w : World) (c0_0 : Int) (c0_1 : Int) (c0_2 : Int) (c0_3 : Int) (c0_4 : Int) (s0_5 : Value) (l0_5 : List DDue) (c1_0 : Int) (h0_5 : Ints 2 w s0_5 (dues l0_5)) :
    Calls Try.prog 105 #[.agg #[.int .i64 c0_0, .int .i64 c0_1, .int .i64 c0_2, .int .i64 c0_3, .int .i64 c0_4, s0_5], .int .i64 c1_0] w (RetV w (.int .i64 (guessOf (⟨⟨c0_0, c0_1, c0_2, c0_3, c0_4, l0_5⟩⟩ : DView) c1_0))) := guessOf_c w (⟨⟨c0_0, c0_1, c0_2, c0_3, c0_4, l0_5⟩⟩ : DView) s0_5 c1_0 h0_5
theorem sFreeIn_l (w : World) (c0_0 : Int) (c0_1 : Int) (c0_2 : Int) (c0_3 : Int) (c0_4 : Int) (s0_5 : Value) (l0_5 : List DDue) (c1_0 : Int) (h0_5 : Ints 2 w s0_5 (dues l0_5)) :
    Calls Try.prog 47 #[.agg #[.int .i64 c0_0, .int .i64 c0_1, .int .i64 c0_2, .int .i64 c0_3, .int .i64 c0_4, s0_5], .int .i64 c1_0] w (RetV w (.bool (freeIn (⟨⟨c0_0, c0_1, c0_2, c0_3, c0_4, l0_5⟩⟩ : DView) c1_0))) := sFreeIn_c w (⟨⟨c0_0, c0_1, c0_2, c0_3, c0_4, l0_5⟩⟩ : DView) s0_5 c1_0 h0_5
theorem freeIn_l (w : World) (c0_0 : Int) (c0_1 : Int) (c0_2 : Int) (c0_3 : Int) (c0_4 : Int) (s0_5 : Value) (l0_5 : List DDue) (c1_0 : Int) (h0_5 : Ints 2 w s0_5 (dues l0_5)) :
    Calls Try.prog 83 #[.agg #[.int .i64 c0_0, .int .i64 c0_1, .int .i64 c0_2, .int .i64 c0_3, .int .i64 c0_4, s0_5], .int .i64 c1_0] w (RetV w (.bool (freeIn (⟨⟨c0_0, c0_1, c0_2, c0_3, c0_4, l0_5⟩⟩ : DView) c1_0))) := freeIn_c w (⟨⟨c0_0, c0_1, c0_2, c0_3, c0_4, l0_5⟩⟩ : DView) s0_5 c1_0 h0_5
theorem sHoldsIn_l (w : World) (c0_0 : Int) (c0_1 : Int) (c0_2 : Int) (c0_3 : Int) (c0_4 : Int) (s0_5 : Value) (l0_5 : List DDue) (c1_0 : Int) (c2_0 : Int) (h0_5 : Ints 2 w s0_5 (dues l0_5)) :
    Calls Try.prog 46 #[.agg #[.int .i64 c0_0, .int .i64 c0_1, .int .i64 c0_2, .int .i64 c0_3, .int .i64 c0_4, s0_5], .int .i64 c1_0, .int .i64 c2_0] w (RetV w (.bool (holdsIn (⟨⟨c0_0, c0_1, c0_2, c0_3, c0_4, l0_5⟩⟩ : DView) c1_0 c2_0))) := sHoldsIn_c w (⟨⟨c0_0, c0_1, c0_2, c0_3, c0_4, l0_5⟩⟩ : DView) s0_5 c1_0 c2_0 h0_5
theorem holdsIn_l (w : World) (c0_0 : Int) (c0_1 : Int) (c0_2 : Int) (c0_3 : Int) (c0_4 : Int) (s0_5 : Value) (l0_5 : List DDue) (c1_0 : Int) (c2_0 : Int) (h0_5 : Ints 2 w s0_5 (dues l0_5)) :
    Calls Try.prog 81 #[.agg #[.int .i64 c0_0, .int .i64 c0_1, .int .i64 c0_2, .int .i64 c0_3, .int .i64 c0_4, s0_5], .int .i64 c1_0, .int .i64 c2_0] w (RetV w (.bool (holdsIn (⟨⟨c0_0, c0_1, c0_2, c0_3, c0_4, l0_5⟩⟩ : DView) c1_0 c2_0))) := holdsIn_c w (⟨⟨c0_0, c0_1, c0_2, c0_3, c0_4, l0_5⟩⟩ : DView) s0_5 c1_0 c2_0 h0_5
set_option maxHeartbeats 1600000 in
set_option maxRecDepth 100000 in
theorem l7Key_c (w : World) (c0_0 : Int) :
    Calls Try.prog 91 #[.int .i64 c0_0] w (fun e w' => e = .returned (.bool (inb c0_0 0 9)) ∧ w = w') := by
  go_enter Try.func91, Try.ntmps91
  go_wp2_with (first | (go_at_call 58; refine (l1In_c _ _ _ _  ).mono ?_; rintro e wa ⟨rfl, rfl⟩))
  all_goals
    go_ret
    refine ⟨by first | rfl | (simp [*]; done) | (simp [*]; omega) | (simp_all [bq, bn]; done) | (simp_all [bq, bn]; omega), by rfl⟩
set_option maxHeartbeats 1600000 in
set_option maxRecDepth 100000 in
theorem l7Value_c (w : World) (c0_0 : Int) :
    Calls Try.prog 92 #[.int .i64 c0_0] w (fun e w' => e = .returned (.bool (inb c0_0 0 999)) ∧ w = w') := by
  go_enter Try.func92, Try.ntmps92
  go_wp2_with (first | (go_at_call 58; refine (l1In_c _ _ _ _  ).mono ?_; rintro e wa ⟨rfl, rfl⟩))
  all_goals
    go_ret
    refine ⟨by first | rfl | (simp [*]; done) | (simp [*]; omega) | (simp_all [bq, bn]; done) | (simp_all [bq, bn]; omega), by rfl⟩
set_option maxHeartbeats 1600000 in
set_option maxRecDepth 100000 in
theorem l7Seq_c (w : World) (c0_0 : Int) :
    Calls Try.prog 71 #[.int .i64 c0_0] w (fun e w' => e = .returned (.bool (inb c0_0 1 2000)) ∧ w = w') := by
  go_enter Try.func71, Try.ntmps71
  go_wp2_with (first | (go_at_call 58; refine (l1In_c _ _ _ _  ).mono ?_; rintro e wa ⟨rfl, rfl⟩))
  all_goals
    go_ret
    refine ⟨by first | rfl | (simp [*]; done) | (simp [*]; omega) | (simp_all [bq, bn]; done) | (simp_all [bq, bn]; omega), by rfl⟩
set_option maxHeartbeats 1600000 in
set_option maxRecDepth 100000 in
theorem l7Index_c (w : World) (c0_0 : Int) :
    Calls Try.prog 72 #[.int .i64 c0_0] w (fun e w' => e = .returned (.bool (inb c0_0 1 2000)) ∧ w = w') := by
  go_enter Try.func72, Try.ntmps72
  go_wp2_with (first | (go_at_call 58; refine (l1In_c _ _ _ _  ).mono ?_; rintro e wa ⟨rfl, rfl⟩))
  all_goals
    go_ret
    refine ⟨by first | rfl | (simp [*]; done) | (simp [*]; omega) | (simp_all [bq, bn]; done) | (simp_all [bq, bn]; omega), by rfl⟩
set_option maxHeartbeats 1600000 in
set_option maxRecDepth 100000 in
theorem sAskerOk_c (w : World) (c0_0 : Int) :
    Calls Try.prog 70 #[.int .i64 c0_0] w (fun e w' => e = .returned (.bool (inb c0_0 2 5)) ∧ w = w') := by
  go_enter Try.func70, Try.ntmps70
  go_wp2_with (first | (go_at_call 58; refine (l1In_c _ _ _ _  ).mono ?_; rintro e wa ⟨rfl, rfl⟩))
  all_goals
    go_ret
    refine ⟨by first | rfl | (simp [*]; done) | (simp [*]; omega) | (simp_all [bq, bn]; done) | (simp_all [bq, bn]; omega), by rfl⟩
set_option maxHeartbeats 1600000 in
set_option maxRecDepth 100000 in
theorem keyOk_c (w : World) (c0_0 : Int) :
    Calls Try.prog 97 #[.int .i64 c0_0] w (fun e w' => e = .returned (.bool (inb c0_0 0 9)) ∧ w = w') := by
  go_enter Try.func97, Try.ntmps97
  go_wp2_with (first | (go_at_call 63; refine (between_c _ _ _ _  ).mono ?_; rintro e wa ⟨rfl, rfl⟩))
  all_goals
    go_ret
    refine ⟨by first | rfl | (simp [*]; done) | (simp [*]; omega) | (simp_all [bq, bn]; done) | (simp_all [bq, bn]; omega), by rfl⟩
set_option maxHeartbeats 1600000 in
set_option maxRecDepth 100000 in
theorem valueOk_c (w : World) (c0_0 : Int) :
    Calls Try.prog 98 #[.int .i64 c0_0] w (fun e w' => e = .returned (.bool (inb c0_0 0 999)) ∧ w = w') := by
  go_enter Try.func98, Try.ntmps98
  go_wp2_with (first | (go_at_call 63; refine (between_c _ _ _ _  ).mono ?_; rintro e wa ⟨rfl, rfl⟩))
  all_goals
    go_ret
    refine ⟨by first | rfl | (simp [*]; done) | (simp [*]; omega) | (simp_all [bq, bn]; done) | (simp_all [bq, bn]; omega), by rfl⟩
set_option maxHeartbeats 1600000 in
set_option maxRecDepth 100000 in
theorem seqOk_c (w : World) (c0_0 : Int) :
    Calls Try.prog 75 #[.int .i64 c0_0] w (fun e w' => e = .returned (.bool (inb c0_0 1 2000)) ∧ w = w') := by
  go_enter Try.func75, Try.ntmps75
  go_wp2_with (first | (go_at_call 63; refine (between_c _ _ _ _  ).mono ?_; rintro e wa ⟨rfl, rfl⟩))
  all_goals
    go_ret
    refine ⟨by first | rfl | (simp [*]; done) | (simp [*]; omega) | (simp_all [bq, bn]; done) | (simp_all [bq, bn]; omega), by rfl⟩
set_option maxHeartbeats 1600000 in
set_option maxRecDepth 100000 in
theorem indexOk_c (w : World) (c0_0 : Int) :
    Calls Try.prog 76 #[.int .i64 c0_0] w (fun e w' => e = .returned (.bool (inb c0_0 1 2000)) ∧ w = w') := by
  go_enter Try.func76, Try.ntmps76
  go_wp2_with (first | (go_at_call 63; refine (between_c _ _ _ _  ).mono ?_; rintro e wa ⟨rfl, rfl⟩))
  all_goals
    go_ret
    refine ⟨by first | rfl | (simp [*]; done) | (simp [*]; omega) | (simp_all [bq, bn]; done) | (simp_all [bq, bn]; omega), by rfl⟩
set_option maxHeartbeats 1600000 in
set_option maxRecDepth 100000 in
theorem askerOk_c (w : World) (c0_0 : Int) :
    Calls Try.prog 74 #[.int .i64 c0_0] w (fun e w' => e = .returned (.bool (inb c0_0 2 5)) ∧ w = w') := by
  go_enter Try.func74, Try.ntmps74
  go_wp2_with (first | (go_at_call 63; refine (between_c _ _ _ _  ).mono ?_; rintro e wa ⟨rfl, rfl⟩))
  all_goals
    go_ret
    refine ⟨by first | rfl | (simp [*]; done) | (simp [*]; omega) | (simp_all [bq, bn]; done) | (simp_all [bq, bn]; omega), by rfl⟩
set_option maxHeartbeats 1600000 in
set_option maxRecDepth 100000 in
theorem sOpOk_c (w : World) (c0_0 : Int) (c0_1 : Int) (c0_2 : Int) (c0_3 : Int) (c0_4 : Int) :
    Calls Try.prog 60 #[.agg #[.int .i64 c0_0, .int .i64 c0_1, .int .i64 c0_2, .int .i64 c0_3, .int .i64 c0_4]] w (RetV w (.bool (opOk (⟨c0_0, c0_1, c0_2, c0_3, c0_4⟩ : DOp)))) := by
  go_enter Try.func60, Try.ntmps60
  go_wp2_with (first | (go_at_call 91; refine (l7Key_c _ _  ).mono ?_; rintro e wa ⟨rfl, rfl⟩) | (go_at_call 92; refine (l7Value_c _ _  ).mono ?_; rintro e wb ⟨rfl, rfl⟩) | (go_at_call 93; refine (l7Id_c _ _  ).mono ?_; rintro e wc ⟨rfl, rfl⟩) | (go_at_call 94; refine (sTimeOk_c _ _  ).mono ?_; rintro e wd ⟨rfl, rfl⟩) | (go_at_call 58; refine (l1In_c _ _ _ _  ).mono ?_; rintro e we ⟨rfl, rfl⟩))
  all_goals
    go_ret
    refine ⟨by first | rfl | (simp [opOk, *]; done) | (simp [opOk, *]; omega) | (simp_all [opOk, bq, bn]; done) | (simp_all [opOk, bq, bn]; omega), ?_⟩
    repeat' (first | (with_reducible exact Ext.refl _) | (with_reducible assumption) | (with_reducible refine Ext.drewN ?_ _) | (with_reducible refine Ext.drew ?_) | (with_reducible refine Ext.alloc ?_ _) | (with_reducible refine Ext.setCell ?_ ?_ _) | (with_reducible exact Nat.le_refl _) | (with_reducible refine Ext.trans ?_ (by assumption)) | omega)
set_option maxHeartbeats 1600000 in
set_option maxRecDepth 100000 in
theorem opOk_c (w : World) (c0_0 : Int) (c0_1 : Int) (c0_2 : Int) (c0_3 : Int) (c0_4 : Int) :
    Calls Try.prog 65 #[.agg #[.int .i64 c0_0, .int .i64 c0_1, .int .i64 c0_2, .int .i64 c0_3, .int .i64 c0_4]] w (RetV w (.bool (opOk (⟨c0_0, c0_1, c0_2, c0_3, c0_4⟩ : DOp)))) := by
  go_enter Try.func65, Try.ntmps65
  go_wp2_with (first | (go_at_call 97; refine (keyOk_c _ _  ).mono ?_; rintro e wa ⟨rfl, rfl⟩) | (go_at_call 98; refine (valueOk_c _ _  ).mono ?_; rintro e wb ⟨rfl, rfl⟩) | (go_at_call 99; refine (idOk_c _ _  ).mono ?_; rintro e wc ⟨rfl, rfl⟩) | (go_at_call 79; refine (timeOk_c _ _  ).mono ?_; rintro e wd ⟨rfl, rfl⟩) | (go_at_call 63; refine (between_c _ _ _ _  ).mono ?_; rintro e we ⟨rfl, rfl⟩))
  all_goals
    go_ret
    refine ⟨by first | rfl | (simp [opOk, *]; done) | (simp [opOk, *]; omega) | (simp_all [opOk, bq, bn]; done) | (simp_all [opOk, bq, bn]; omega), ?_⟩
    repeat' (first | (with_reducible exact Ext.refl _) | (with_reducible assumption) | (with_reducible refine Ext.drewN ?_ _) | (with_reducible refine Ext.drew ?_) | (with_reducible refine Ext.alloc ?_ _) | (with_reducible refine Ext.setCell ?_ ?_ _) | (with_reducible exact Nat.le_refl _) | (with_reducible refine Ext.trans ?_ (by assumption)) | omega)

end Go.Proofs.Ythegnmdknenefaa
