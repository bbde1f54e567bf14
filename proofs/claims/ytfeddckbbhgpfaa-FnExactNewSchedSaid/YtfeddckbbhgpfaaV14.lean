/- Schedulers: new, fallen, their request. -/
import Derived.Test.YtfeddckbbhgpfaaV13
import Derived.Test.YtfeddckbbhgpfaaV11
namespace Go.Proofs.Ytfeddckbbhgpfaa
open Go.RowKit Go.G8


noncomputable def zSched : DSched := ⟨0, 0, ⟨⟨0, 0, 0, 0, 0, []⟩⟩, false, ⟨0, 0, 0, 0, 0⟩, 0⟩
noncomputable def newSched (id : Int) : DSched := if schedOk id then ⟨id, 0, ⟨⟨0, 0, 0, 0, 0, []⟩⟩, false, ⟨0, 0, 0, 0, 0⟩, 0⟩ else zSched
noncomputable def fallenSched (s : DSched) : DSched := if schedOkS s then newSched s.Id else zSched
noncomputable def askBy (s : DSched) : DAsk := if schedOkS s && s.Busy then ⟨s.Id, s.Seq, s.Op⟩ else ⟨0, 0, ⟨0, 0, 0, 0, 0⟩⟩
noncomputable def askByB (s : DSched) : Bool := schedOkS s && s.Busy
noncomputable def ackHeard (s : DSched) (a : DAck) : DSched :=
  if schedOkS s then
    (if !ackOk a || decide (a.Client ≠ s.Id) then s
     else if s.Busy && (decide (a.Seq = s.Seq) && decide (a.Index ≠ 0)) then { s with Index := a.Index, Busy := false, Op := ⟨0, 0, 0, 0, 0⟩ }
     else if s.Seq < a.Last then { s with Seq := a.Last, Busy := false, Op := ⟨0, 0, 0, 0, 0⟩ }
     else s)
  else zSched
theorem schedOkS_len {s : DSched} (h : schedOkS s = true) : s.View.Jobs.Open.length ≤ 8 := by
  simp only [Bool.and_eq_true, schedOkS] at h
  exact jobs_len h.2.2.1
theorem newSched_len (i : Int) : (newSched i).View.Jobs.Open.length ≤ 8 := by unfold newSched zSched; split <;> simp
theorem fallenSched_len (s : DSched) : (fallenSched s).View.Jobs.Open.length ≤ 8 := by
  unfold fallenSched; split
  · exact newSched_len _
  · simp [zSched]
theorem ackHeard_len (s : DSched) (a : DAck) : (ackHeard s a).View.Jobs.Open.length ≤ 8 := by
  unfold ackHeard
  split
  · rename_i h
    have := schedOkS_len h
    (repeat' split) <;> exact this
  · simp [zSched]
set_option maxHeartbeats 1600000 in
set_option maxRecDepth 100000 in
theorem sNewSched_c (w : World) (c0_0 : Int) :
    Calls Try.prog 20 #[.int .i64 c0_0] w (Ret w fun r0 w' => IsSched w.heap.size w' r0 (newSched c0_0)) := by
  go_enter Try.func20, Try.ntmps20
  go_wp2_with (first | (go_at_call 40; refine (l16Who_c _ _  ).mono ?_; rintro e wa ⟨rfl, rfl⟩))
  all_goals
    refine bodyPost_ret (by simp [results, Try.results20, go_sem, *]; try rfl) rfl ?_
    refine ⟨_, rfl, ?_, ?_⟩
    · repeat' (first | (with_reducible exact Ext.refl _) | (with_reducible assumption) | (with_reducible refine Ext.drewN ?_ _) | (with_reducible refine Ext.drew ?_) | (with_reducible refine Ext.alloc ?_ _) | (with_reducible refine Ext.setCell ?_ ?_ _) | (with_reducible exact Nat.le_refl _) | (with_reducible refine Ext.trans ?_ (by assumption)) | omega)
    · exact (IsSched.cast (IsSched.mk (by first | (with_reducible exact nil_dues _ _ _ _) | (with_reducible refine OwnI.mono (OwnI.keep (by assumption) ?_) ?_; rotate_left; (focus omega); (focus (repeat' (first | (with_reducible exact Chg.refl _ _) | (with_reducible refine Chg.drewN ?_ _) | (with_reducible refine Chg.drew ?_) | (with_reducible refine Chg.alloc ?_ _) | (with_reducible refine Chg.setLow ?_ ?_ _) | (with_reducible refine Chg.ext ?_ (by assumption)) | omega)))))) (by first | rfl | (simp [newSched, zSched, *]; done) | (simp [newSched, zSched, *]; omega) | (simp_all [newSched, zSched, bq, bn]; done) | (simp_all [newSched, zSched, bq, bn]; omega)))
set_option maxHeartbeats 1600000 in
set_option maxRecDepth 100000 in
theorem newSched_c (w : World) (c0_0 : Int) :
    Calls Try.prog 21 #[.int .i64 c0_0] w (Ret w fun r0 w' => IsSched w.heap.size w' r0 (newSched c0_0)) := by
  go_enter Try.func21, Try.ntmps21
  go_wp2_with (first | (go_at_call 41; refine (schedOk_c _ _  ).mono ?_; rintro e wa ⟨rfl, rfl⟩))
  all_goals
    refine bodyPost_ret (by simp [results, Try.results21, go_sem, *]; try rfl) rfl ?_
    refine ⟨_, rfl, ?_, ?_⟩
    · repeat' (first | (with_reducible exact Ext.refl _) | (with_reducible assumption) | (with_reducible refine Ext.drewN ?_ _) | (with_reducible refine Ext.drew ?_) | (with_reducible refine Ext.alloc ?_ _) | (with_reducible refine Ext.setCell ?_ ?_ _) | (with_reducible exact Nat.le_refl _) | (with_reducible refine Ext.trans ?_ (by assumption)) | omega)
    · exact (IsSched.cast (IsSched.mk (by first | (with_reducible exact nil_dues _ _ _ _) | (with_reducible refine OwnI.mono (OwnI.keep (by assumption) ?_) ?_; rotate_left; (focus omega); (focus (repeat' (first | (with_reducible exact Chg.refl _ _) | (with_reducible refine Chg.drewN ?_ _) | (with_reducible refine Chg.drew ?_) | (with_reducible refine Chg.alloc ?_ _) | (with_reducible refine Chg.setLow ?_ ?_ _) | (with_reducible refine Chg.ext ?_ (by assumption)) | omega)))))) (by first | rfl | (simp [newSched, zSched, *]; done) | (simp [newSched, zSched, *]; omega) | (simp_all [newSched, zSched, bq, bn]; done) | (simp_all [newSched, zSched, bq, bn]; omega)))

end Go.Proofs.Ytfeddckbbhgpfaa
