/- Operations: right or not. -/
import Derived.Test.YtfeddckbbhgpfaaV7
import Derived.Test.YtfeddckbbhgpfaaDat
namespace Go.Proofs.Ytfeddckbbhgpfaa
open Go.RowKit Go.G8


theorem inb_iff {x lo hi : Int} : inb x lo hi = decide (lo ≤ x ∧ x ≤ hi) := rfl
def opOk (o : DOp) : Bool :=
  if o.Kind = 1 then inb o.A 0 9 && (inb o.B 0 999 && (decide (o.C = 0) && decide (o.D = 0)))
  else if o.Kind = 2 then inb o.A 0 9 && (decide (o.B = 0) && (decide (o.C = 0) && decide (o.D = 0)))
  else if o.Kind = 3 then idOk o.A && (timeOk o.B && (inb o.C 0 9 && inb o.D 0 999))
  else if o.Kind = 4 then idOk o.A && (inb o.B 0 1000 && (decide (o.C = 0) && decide (o.D = 0)))
  else if o.Kind = 5 then inb o.A 1 1000 && (decide (o.B = 0) && (decide (o.C = 0) && decide (o.D = 0)))
  else false
def opZ (o : DOp) : Bool := decide (o.Kind = 0 ∧ o.A = 0 ∧ o.B = 0 ∧ o.C = 0 ∧ o.D = 0)
def askOk (a : DAsk) : Bool := inb a.Client 2 5 && (inb a.Seq 1 2000 && opOk a.Op)
def ackOk (a : DAck) : Bool := inb a.Client 2 5 && (inb a.Seq 1 2000 && (inb a.Last a.Seq 2000 && (if a.Seq < a.Last then decide (a.Index = 0) else inb a.Index 1 2000)))
noncomputable def schedOkS (s : DSched) : Bool := schedOk s.Id && (inb s.Seq 0 2000 && (jobsOk2 s.View.Jobs && (inb s.Index 0 2000 && (if s.Busy then decide (0 < s.Seq) && (opOk s.Op && (decide (s.Op.Kind = 4) || decide (s.Op.Kind = 5))) else opZ s.Op))))
theorem sJobsOk2_l (w : World) (c0_0 : Int) (c0_1 : Int) (c0_2 : Int) (c0_3 : Int) (c0_4 : Int) (s0_5 : Value) (l0_5 : List DDue) (h0_5 : Ints 2 w s0_5 (dues l0_5)) :
    Calls Try.prog 36 #[.agg #[.int .i64 c0_0, .int .i64 c0_1, .int .i64 c0_2, .int .i64 c0_3, .int .i64 c0_4, s0_5]] w (RetV w (.bool (jobsOk2 (⟨c0_0, c0_1, c0_2, c0_3, c0_4, l0_5⟩ : DJobs)))) := sJobsOk2_c w (⟨c0_0, c0_1, c0_2, c0_3, c0_4, l0_5⟩ : DJobs) s0_5 h0_5
theorem jobsOk2_l (w : World) (c0_0 : Int) (c0_1 : Int) (c0_2 : Int) (c0_3 : Int) (c0_4 : Int) (s0_5 : Value) (l0_5 : List DDue) (h0_5 : Ints 2 w s0_5 (dues l0_5)) :
    Calls Try.prog 38 #[.agg #[.int .i64 c0_0, .int .i64 c0_1, .int .i64 c0_2, .int .i64 c0_3, .int .i64 c0_4, s0_5]] w (RetV w (.bool (jobsOk2 (⟨c0_0, c0_1, c0_2, c0_3, c0_4, l0_5⟩ : DJobs)))) := jobsOk2_c w (⟨c0_0, c0_1, c0_2, c0_3, c0_4, l0_5⟩ : DJobs) s0_5 h0_5
theorem sViewOk_l (w : World) (c0_0 : Int) (c0_1 : Int) (c0_2 : Int) (c0_3 : Int) (c0_4 : Int) (s0_5 : Value) (l0_5 : List DDue) (h0_5 : Ints 2 w s0_5 (dues l0_5)) :
    Calls Try.prog 14 #[.agg #[.int .i64 c0_0, .int .i64 c0_1, .int .i64 c0_2, .int .i64 c0_3, .int .i64 c0_4, s0_5]] w (RetV w (.bool (jobsOk2 (⟨⟨c0_0, c0_1, c0_2, c0_3, c0_4, l0_5⟩⟩ : DView).Jobs))) := sViewOk_c w (⟨⟨c0_0, c0_1, c0_2, c0_3, c0_4, l0_5⟩⟩ : DView) s0_5 h0_5
theorem viewOk_l (w : World) (c0_0 : Int) (c0_1 : Int) (c0_2 : Int) (c0_3 : Int) (c0_4 : Int) (s0_5 : Value) (l0_5 : List DDue) (h0_5 : Ints 2 w s0_5 (dues l0_5)) :
    Calls Try.prog 16 #[.agg #[.int .i64 c0_0, .int .i64 c0_1, .int .i64 c0_2, .int .i64 c0_3, .int .i64 c0_4, s0_5]] w (RetV w (.bool (jobsOk2 (⟨⟨c0_0, c0_1, c0_2, c0_3, c0_4, l0_5⟩⟩ : DView).Jobs))) := viewOk_c w (⟨⟨c0_0, c0_1, c0_2, c0_3, c0_4, l0_5⟩⟩ : DView) s0_5 h0_5
theorem sStaleIn_l (w : World) (c0_0 : Int) (c0_1 : Int) (c0_2 : Int) (c0_3 : Int) (c0_4 : Int) (s0_5 : Value) (l0_5 : List DDue) (c1_0 : Int) (h0_5 : Ints 2 w s0_5 (dues l0_5)) :
    Calls Try.prog 18 #[.agg #[.int .i64 c0_0, .int .i64 c0_1, .int .i64 c0_2, .int .i64 c0_3, .int .i64 c0_4, s0_5], .int .i64 c1_0] w (RetV w (.bool (staleIn (⟨⟨c0_0, c0_1, c0_2, c0_3, c0_4, l0_5⟩⟩ : DView) c1_0))) := sStaleIn_c w (⟨⟨c0_0, c0_1, c0_2, c0_3, c0_4, l0_5⟩⟩ : DView) s0_5 c1_0 h0_5
theorem staleIn_l (w : World) (c0_0 : Int) (c0_1 : Int) (c0_2 : Int) (c0_3 : Int) (c0_4 : Int) (s0_5 : Value) (l0_5 : List DDue) (c1_0 : Int) (h0_5 : Ints 2 w s0_5 (dues l0_5)) :
    Calls Try.prog 19 #[.agg #[.int .i64 c0_0, .int .i64 c0_1, .int .i64 c0_2, .int .i64 c0_3, .int .i64 c0_4, s0_5], .int .i64 c1_0] w (RetV w (.bool (staleIn (⟨⟨c0_0, c0_1, c0_2, c0_3, c0_4, l0_5⟩⟩ : DView) c1_0))) := staleIn_c w (⟨⟨c0_0, c0_1, c0_2, c0_3, c0_4, l0_5⟩⟩ : DView) s0_5 c1_0 h0_5
theorem sGuessOf_l (w : World) (c0_0 : Int) (c0_1 : Int) (c0_2 : Int) (c0_3 : Int) (c0_4 : Int) (s0_5 : Value) (l0_5 : List DDue) (c1_0 : Int) (h0_5 : Ints 2 w s0_5 (dues l0_5)) :
    Calls Try.prog 25 #[.agg #[.int .i64 c0_0, .int .i64 c0_1, .int .i64 c0_2, .int .i64 c0_3, .int .i64 c0_4, s0_5], .int .i64 c1_0] w (RetV w (.int .i64 (guessOf (⟨⟨c0_0, c0_1, c0_2, c0_3, c0_4, l0_5⟩⟩ : DView) c1_0))) := sGuessOf_c w (⟨⟨c0_0, c0_1, c0_2, c0_3, c0_4, l0_5⟩⟩ : DView) s0_5 c1_0 h0_5
theorem guessOf_l (w : World) (c0_0 : Int) (c0_1 : Int) (c0_2 : Int) (c0_3 : Int) (c0_4 : Int) (s0_5 : Value) (l0_5 : List DDue) (c1_0 : Int) (h0_5 : Ints 2 w s0_5 (dues l0_5)) :
    Calls Try.prog 26 #[.agg #[.int .i64 c0_0, .int .i64 c0_1, .int .i64 c0_2, .int .i64 c0_3, .int .i64 c0_4, s0_5], .int .i64 c1_0] w (RetV w (.int .i64 (guessOf (⟨⟨c0_0, c0_1, c0_2, c0_3, c0_4, l0_5⟩⟩ : DView) c1_0))) := guessOf_c w (⟨⟨c0_0, c0_1, c0_2, c0_3, c0_4, l0_5⟩⟩ : DView) s0_5 c1_0 h0_5

end Go.Proofs.Ytfeddckbbhgpfaa
