/- Jobs and leases: one is right or not. -/
import Derived.Test.YtemhbbpbmgpcaaaP1
set_option linter.unusedSimpArgs false
set_option linter.unusedVariables false
namespace Go.Proofs.Ytemhbbpbmgpcaaa
open Go.RowKit Go.G8

end Go.Proofs.Ytemhbbpbmgpcaaa
namespace Go.G8
def jobOk (j : DJob) : Bool := idOk j.Id && (timeOk j.Due && (inb j.Key 0 9 && (inb j.Value 0 999 && inb j.Fired 0 2000)))
def leaseZ (l : DLease) : Bool := decide (l.Holder = 0) && (decide (l.Epoch = 0) && decide (l.Until = 0))
def leaseOk (l : DLease) : Bool := leaseZ l || (schedOk l.Holder && (inb l.Epoch 1 1000 && inb l.Until 1 1001000))
end Go.G8
namespace Go.Proofs.Ytemhbbpbmgpcaaa
open Go.RowKit Go.G8
set_option maxHeartbeats 1600000 in
set_option maxRecDepth 100000 in
theorem l16Who_cP (w : World) (c0_0 : Int) :
    Calls Try.prog 95 #[.int .i64 c0_0] w (fun e w' => e = .returned (.bool (schedOk c0_0)) ∧ w = w') := by
  have rsize_setRow := @size_setRow
  have rcell_setRow_lt := @cell_setRow_lt
  have rcell_setRow_gt := @cell_setRow_gt
  have rfrozen_setRow_lt := @frozen_setRow_lt
  have rfrozen_setRow_gt := @frozen_setRow_gt
  go_enter Try.func95, Try.ntmps95
  go_wp2
  all_goals
    go_ret
    refine ⟨by first | rfl | (simp [schedOk, *]; done) | (simp [schedOk, *]; omega) | (simp_all [schedOk, bq, bn]; done) | (simp_all [schedOk, bq, bn]; omega), by rfl⟩
set_option maxHeartbeats 1600000 in
set_option maxRecDepth 100000 in
theorem schedOk_cP (w : World) (c0_0 : Int) :
    Calls Try.prog 100 #[.int .i64 c0_0] w (fun e w' => e = .returned (.bool (schedOk c0_0)) ∧ w = w') := by
  have rsize_setRow := @size_setRow
  have rcell_setRow_lt := @cell_setRow_lt
  have rcell_setRow_gt := @cell_setRow_gt
  have rfrozen_setRow_lt := @frozen_setRow_lt
  have rfrozen_setRow_gt := @frozen_setRow_gt
  go_enter Try.func100, Try.ntmps100
  go_wp2
  all_goals
    go_ret
    refine ⟨by first | rfl | (simp [schedOk, *]; done) | (simp [schedOk, *]; omega) | (simp_all [schedOk, bq, bn]; done) | (simp_all [schedOk, bq, bn]; omega), by rfl⟩
set_option maxHeartbeats 1600000 in
set_option maxRecDepth 100000 in
theorem sJobOk_c (w : World) (c0_0 : Int) (c0_1 : Int) (c0_2 : Int) (c0_3 : Int) (c0_4 : Int) :
    Calls Try.prog 94 #[.agg #[.int .i64 c0_0, .int .i64 c0_1, .int .i64 c0_2, .int .i64 c0_3, .int .i64 c0_4]] w (RetV w (.bool (jobOk (⟨c0_0, c0_1, c0_2, c0_3, c0_4⟩ : DJob)))) := by
  have rsize_setRow := @size_setRow
  have rcell_setRow_lt := @cell_setRow_lt
  have rcell_setRow_gt := @cell_setRow_gt
  have rfrozen_setRow_lt := @frozen_setRow_lt
  have rfrozen_setRow_gt := @frozen_setRow_gt
  go_enter Try.func94, Try.ntmps94
  go_wp2_with (first | (go_at_call 44; refine (l1In_c _ _ _ _  ).mono ?_; rintro e wa ⟨rfl, rfl⟩))
  all_goals
    go_ret
    refine ⟨by first | rfl | (simp [jobOk, idOk, timeOk, *]; done) | (simp [jobOk, idOk, timeOk, *]; omega) | (simp_all [jobOk, idOk, timeOk, bq, bn]; done) | (simp_all [jobOk, idOk, timeOk, bq, bn]; omega), ?_⟩
    repeat' (first | (with_reducible exact Ext.refl _) | (with_reducible assumption) | (with_reducible refine Ext.drewN ?_ _) | (with_reducible refine Ext.drew ?_) | (with_reducible refine Ext.alloc ?_ _) | (with_reducible refine Ext.setCell ?_ ?_ _) | (with_reducible refine Ext.setRow ?_ ?_ _) | (with_reducible exact Nat.le_refl _) | (with_reducible refine Ext.trans ?_ (by assumption)) | omega)
set_option maxHeartbeats 1600000 in
set_option maxRecDepth 100000 in
theorem jobOk_c (w : World) (c0_0 : Int) (c0_1 : Int) (c0_2 : Int) (c0_3 : Int) (c0_4 : Int) :
    Calls Try.prog 98 #[.agg #[.int .i64 c0_0, .int .i64 c0_1, .int .i64 c0_2, .int .i64 c0_3, .int .i64 c0_4]] w (RetV w (.bool (jobOk (⟨c0_0, c0_1, c0_2, c0_3, c0_4⟩ : DJob)))) := by
  have rsize_setRow := @size_setRow
  have rcell_setRow_lt := @cell_setRow_lt
  have rcell_setRow_gt := @cell_setRow_gt
  have rfrozen_setRow_lt := @frozen_setRow_lt
  have rfrozen_setRow_gt := @frozen_setRow_gt
  go_enter Try.func98, Try.ntmps98
  go_wp2_with (first | (go_at_call 101; refine (idOk_c _ _  ).mono ?_; rintro e wa ⟨rfl, rfl⟩) | (go_at_call 86; refine (timeOk_c _ _  ).mono ?_; rintro e wb ⟨rfl, rfl⟩) | (go_at_call 96; refine (keyOk_cP _ _  ).mono ?_; rintro e wc ⟨rfl, rfl⟩) | (go_at_call 97; refine (valueOk_cP _ _  ).mono ?_; rintro e wd ⟨rfl, rfl⟩) | (go_at_call 55; refine (between_c _ _ _ _  ).mono ?_; rintro e we ⟨rfl, rfl⟩))
  all_goals
    go_ret
    refine ⟨by first | rfl | (simp [jobOk, *]; done) | (simp [jobOk, *]; omega) | (simp_all [jobOk, bq, bn]; done) | (simp_all [jobOk, bq, bn]; omega), ?_⟩
    repeat' (first | (with_reducible exact Ext.refl _) | (with_reducible assumption) | (with_reducible refine Ext.drewN ?_ _) | (with_reducible refine Ext.drew ?_) | (with_reducible refine Ext.alloc ?_ _) | (with_reducible refine Ext.setCell ?_ ?_ _) | (with_reducible refine Ext.setRow ?_ ?_ _) | (with_reducible exact Nat.le_refl _) | (with_reducible refine Ext.trans ?_ (by assumption)) | omega)
set_option maxHeartbeats 1600000 in
set_option maxRecDepth 100000 in
theorem closed_c (w : World) (c0_0 : Int) (c0_1 : Int) (c0_2 : Int) (c0_3 : Int) (c0_4 : Int) :
    Calls Try.prog 99 #[.agg #[.int .i64 c0_0, .int .i64 c0_1, .int .i64 c0_2, .int .i64 c0_3, .int .i64 c0_4]] w (RetV w (.bool ((!decide ((⟨c0_0, c0_1, c0_2, c0_3, c0_4⟩ : DJob).Fired = 0))))) := by
  have rsize_setRow := @size_setRow
  have rcell_setRow_lt := @cell_setRow_lt
  have rcell_setRow_gt := @cell_setRow_gt
  have rfrozen_setRow_lt := @frozen_setRow_lt
  have rfrozen_setRow_gt := @frozen_setRow_gt
  go_enter Try.func99, Try.ntmps99
  go_wp2
  all_goals
    go_ret
    refine ⟨by first | rfl | (simp [*]; done) | (simp [*]; omega) | (simp_all [bq, bn]; done) | (simp_all [bq, bn]; omega), ?_⟩
    repeat' (first | (with_reducible exact Ext.refl _) | (with_reducible assumption) | (with_reducible refine Ext.drewN ?_ _) | (with_reducible refine Ext.drew ?_) | (with_reducible refine Ext.alloc ?_ _) | (with_reducible refine Ext.setCell ?_ ?_ _) | (with_reducible refine Ext.setRow ?_ ?_ _) | (with_reducible exact Nat.le_refl _) | (with_reducible refine Ext.trans ?_ (by assumption)) | omega)
set_option maxHeartbeats 1600000 in
set_option maxRecDepth 100000 in
theorem sLeaseOk_c (w : World) (c0_0 : Int) (c0_1 : Int) (c0_2 : Int) :
    Calls Try.prog 83 #[.agg #[.int .i64 c0_0, .int .i64 c0_1, .int .i64 c0_2]] w (RetV w (.bool (leaseOk (⟨c0_0, c0_1, c0_2⟩ : DLease)))) := by
  have rsize_setRow := @size_setRow
  have rcell_setRow_lt := @cell_setRow_lt
  have rcell_setRow_gt := @cell_setRow_gt
  have rfrozen_setRow_lt := @frozen_setRow_lt
  have rfrozen_setRow_gt := @frozen_setRow_gt
  go_enter Try.func83, Try.ntmps83
  go_wp2_with (first | (go_at_call 95; refine (l16Who_cP _ _  ).mono ?_; rintro e wa ⟨rfl, rfl⟩) | (go_at_call 44; refine (l1In_c _ _ _ _  ).mono ?_; rintro e wb ⟨rfl, rfl⟩))
  all_goals
    go_ret
    refine ⟨by first | rfl | (simp [leaseOk, leaseZ, *]; done) | (simp [leaseOk, leaseZ, *]; omega) | (simp_all [leaseOk, leaseZ, bq, bn]; done) | (simp_all [leaseOk, leaseZ, bq, bn]; omega), ?_⟩
    repeat' (first | (with_reducible exact Ext.refl _) | (with_reducible assumption) | (with_reducible refine Ext.drewN ?_ _) | (with_reducible refine Ext.drew ?_) | (with_reducible refine Ext.alloc ?_ _) | (with_reducible refine Ext.setCell ?_ ?_ _) | (with_reducible refine Ext.setRow ?_ ?_ _) | (with_reducible exact Nat.le_refl _) | (with_reducible refine Ext.trans ?_ (by assumption)) | omega)
set_option maxHeartbeats 1600000 in
set_option maxRecDepth 100000 in
theorem leaseOk_c (w : World) (c0_0 : Int) (c0_1 : Int) (c0_2 : Int) :
    Calls Try.prog 89 #[.agg #[.int .i64 c0_0, .int .i64 c0_1, .int .i64 c0_2]] w (RetV w (.bool (leaseOk (⟨c0_0, c0_1, c0_2⟩ : DLease)))) := by
  have rsize_setRow := @size_setRow
  have rcell_setRow_lt := @cell_setRow_lt
  have rcell_setRow_gt := @cell_setRow_gt
  have rfrozen_setRow_lt := @frozen_setRow_lt
  have rfrozen_setRow_gt := @frozen_setRow_gt
  go_enter Try.func89, Try.ntmps89
  go_wp2_with (first | (go_at_call 100; refine (schedOk_cP _ _  ).mono ?_; rintro e wa ⟨rfl, rfl⟩) | (go_at_call 55; refine (between_c _ _ _ _  ).mono ?_; rintro e wb ⟨rfl, rfl⟩))
  all_goals
    go_ret
    refine ⟨by first | rfl | (simp [leaseOk, leaseZ, *]; done) | (simp [leaseOk, leaseZ, *]; omega) | (simp_all [leaseOk, leaseZ, bq, bn]; done) | (simp_all [leaseOk, leaseZ, bq, bn]; omega), ?_⟩
    repeat' (first | (with_reducible exact Ext.refl _) | (with_reducible assumption) | (with_reducible refine Ext.drewN ?_ _) | (with_reducible refine Ext.drew ?_) | (with_reducible refine Ext.alloc ?_ _) | (with_reducible refine Ext.setCell ?_ ?_ _) | (with_reducible refine Ext.setRow ?_ ?_ _) | (with_reducible exact Nat.le_refl _) | (with_reducible refine Ext.trans ?_ (by assumption)) | omega)

end Go.Proofs.Ytemhbbpbmgpcaaa
