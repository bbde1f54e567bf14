/- Contracts and plain laws: Rd2 RAM. -/
import Derived.Test.YthihnangjghloaaGreatGa
import Derived.Test.YthihnangjghloaaGreatGj
import Derived.Test.YthihnangjghloaaGreatGn
set_option linter.unusedSimpArgs false
set_option linter.unusedVariables false
-- Reads.
set_option linter.unusedSimpArgs false
set_option linter.unusedVariables false
namespace Go.Proofs.YthihnangjghloaaGreat
open Go.RowKit Go.G8

end Go.Proofs.YthihnangjghloaaGreat
namespace Go.G8
open Go.RowKit
def rrOk (r : DRead) : Bool := inb r.Client 2 5 && (inb r.Seq 1 2000 && (inb r.Key 0 9 && inb r.Least 0 2000))
noncomputable def rbOk (s : DStore) (r : DRead) : Bool := storeOk s && (rrOk r && !decide (s.State.Index < r.Least))
noncomputable def rbVal (s : DStore) (r : DRead) : DValue := if rbOk s r then ⟨r.Client, r.Seq, s.State.Index, if vhas s.State.Pairs r.Key then 1 else 0, vnum s.State.Pairs r.Key⟩ else ⟨0, 0, 0, 0, 0⟩
theorem storeOk_pairs {s : DStore} (h : storeOk s = true) : pairsOk s.State.Pairs = true := by
 have := storeOk_state h
 simp only [stateOk, Bool.and_eq_true] at this
 exact this.2.2.1
theorem vnum_none {l : List DPair} {k : Int} (h : vhas l k = false) : vnum l k = 0 := by
 unfold vhas at h
 unfold vnum
 cases hf : vfind l k
 ·
  rfl
 ·
  rw [hf] at h; simp at h
end Go.G8
namespace Go.Proofs.YthihnangjghloaaGreat
open Go.RowKit Go.G8
set_option maxHeartbeats 1600000 in
set_option maxRecDepth 100000 in
theorem specA_R (w : World) (c0_0 : Int) :
  Calls Tryz.prog 49 #[.int .i64 c0_0] w (fun e w' => e = .returned (.bool (inb c0_0 2 5)) ∧ w = w') := by
 have rsize_setRow := @size_setRow
 have rcell_setRow_lt := @cell_setRow_lt
 have rcell_setRow_gt := @cell_setRow_gt
 have rfrozen_setRow_lt := @frozen_setRow_lt
 have rfrozen_setRow_gt := @frozen_setRow_gt
 go_enter Tryz.func49, Tryz.ntmps49
 go_wp2_with (first | (go_at_call 42; refine (l1In_c _ _ _ _  ).mono ?_; rintro e wa ⟨rfl, rfl⟩))
 all_goals
  go_ret
  refine ⟨by first | rfl | (simp [*]; done) | (simp [*]; omega) | (simp_all [bq, bn]; done) | (simp_all [bq, bn]; omega), by rfl⟩
set_option maxHeartbeats 1600000 in
set_option maxRecDepth 100000 in
theorem specS_R (w : World) (c0_0 : Int) :
  Calls Tryz.prog 50 #[.int .i64 c0_0] w (fun e w' => e = .returned (.bool (inb c0_0 1 2000)) ∧ w = w') := by
 have rsize_setRow := @size_setRow
 have rcell_setRow_lt := @cell_setRow_lt
 have rcell_setRow_gt := @cell_setRow_gt
 have rfrozen_setRow_lt := @frozen_setRow_lt
 have rfrozen_setRow_gt := @frozen_setRow_gt
 go_enter Tryz.func50, Tryz.ntmps50
 go_wp2_with (first | (go_at_call 42; refine (l1In_c _ _ _ _  ).mono ?_; rintro e wa ⟨rfl, rfl⟩))
 all_goals
  go_ret
  refine ⟨by first | rfl | (simp [*]; done) | (simp [*]; omega) | (simp_all [bq, bn]; done) | (simp_all [bq, bn]; omega), by rfl⟩
set_option maxHeartbeats 1600000 in
set_option maxRecDepth 100000 in
theorem specK_R (w : World) (c0_0 : Int) :
  Calls Tryz.prog 68 #[.int .i64 c0_0] w (fun e w' => e = .returned (.bool (inb c0_0 0 9)) ∧ w = w') := by
 have rsize_setRow := @size_setRow
 have rcell_setRow_lt := @cell_setRow_lt
 have rcell_setRow_gt := @cell_setRow_gt
 have rfrozen_setRow_lt := @frozen_setRow_lt
 have rfrozen_setRow_gt := @frozen_setRow_gt
 go_enter Tryz.func68, Tryz.ntmps68
 go_wp2_with (first | (go_at_call 42; refine (l1In_c _ _ _ _  ).mono ?_; rintro e wa ⟨rfl, rfl⟩))
 all_goals
  go_ret
  refine ⟨by first | rfl | (simp [*]; done) | (simp [*]; omega) | (simp_all [bq, bn]; done) | (simp_all [bq, bn]; omega), by rfl⟩
set_option maxHeartbeats 1600000 in
set_option maxRecDepth 100000 in
theorem specReadOk_c (w : World) (c0_0 : Int) (c0_1 : Int) (c0_2 : Int) (c0_3 : Int) :
  Calls Tryz.prog 25 #[.agg #[.int .i64 c0_0, .int .i64 c0_1, .int .i64 c0_2, .int .i64 c0_3]] w (RetV w (.bool (rrOk (⟨c0_0, c0_1, c0_2, c0_3⟩ : DRead)))) := by
 have rsize_setRow := @size_setRow
 have rcell_setRow_lt := @cell_setRow_lt
 have rcell_setRow_gt := @cell_setRow_gt
 have rfrozen_setRow_lt := @frozen_setRow_lt
 have rfrozen_setRow_gt := @frozen_setRow_gt
 go_enter Tryz.func25, Tryz.ntmps25
 go_wp2_with (first | (go_at_call 49; refine (specA_R _ _  ).mono ?_; rintro e wa ⟨rfl, rfl⟩) | (go_at_call 50; refine (specS_R _ _  ).mono ?_; rintro e wb ⟨rfl, rfl⟩) | (go_at_call 68; refine (specK_R _ _  ).mono ?_; rintro e wc ⟨rfl, rfl⟩) | (go_at_call 42; refine (l1In_c _ _ _ _  ).mono ?_; rintro e wd ⟨rfl, rfl⟩))
 all_goals
  go_ret
  refine ⟨by first | rfl | (simp [rrOk, inb, *]; done) | (simp [rrOk, inb, *]; omega) | (simp_all [rrOk, inb, bq, bn]; done) | (simp_all [rrOk, inb, bq, bn]; omega), ?_⟩
  (first | exact extT | omega)
set_option maxHeartbeats 1600000 in
set_option maxRecDepth 100000 in
theorem implA_R (w : World) (c0_0 : Int) :
  Calls Tryz.prog 93 #[.int .i64 c0_0] w (fun e w' => e = .returned (.bool (inb c0_0 2 5)) ∧ w = w') := by
 have rsize_setRow := @size_setRow
 have rcell_setRow_lt := @cell_setRow_lt
 have rcell_setRow_gt := @cell_setRow_gt
 have rfrozen_setRow_lt := @frozen_setRow_lt
 have rfrozen_setRow_gt := @frozen_setRow_gt
 go_enter Tryz.func93, Tryz.ntmps93
 go_wp2_with (first | (go_at_call 46; refine (between_c _ _ _ _  ).mono ?_; rintro e wa ⟨rfl, rfl⟩))
 all_goals
  go_ret
  refine ⟨by first | rfl | (simp [*]; done) | (simp [*]; omega) | (simp_all [bq, bn]; done) | (simp_all [bq, bn]; omega), by rfl⟩
set_option maxHeartbeats 1600000 in
set_option maxRecDepth 100000 in
theorem implS_R (w : World) (c0_0 : Int) :
  Calls Tryz.prog 94 #[.int .i64 c0_0] w (fun e w' => e = .returned (.bool (inb c0_0 1 2000)) ∧ w = w') := by
 have rsize_setRow := @size_setRow
 have rcell_setRow_lt := @cell_setRow_lt
 have rcell_setRow_gt := @cell_setRow_gt
 have rfrozen_setRow_lt := @frozen_setRow_lt
 have rfrozen_setRow_gt := @frozen_setRow_gt
 go_enter Tryz.func94, Tryz.ntmps94
 go_wp2_with (first | (go_at_call 46; refine (between_c _ _ _ _  ).mono ?_; rintro e wa ⟨rfl, rfl⟩))
 all_goals
  go_ret
  refine ⟨by first | rfl | (simp [*]; done) | (simp [*]; omega) | (simp_all [bq, bn]; done) | (simp_all [bq, bn]; omega), by rfl⟩
set_option maxHeartbeats 1600000 in
set_option maxRecDepth 100000 in
theorem implK_R (w : World) (c0_0 : Int) :
  Calls Tryz.prog 101 #[.int .i64 c0_0] w (fun e w' => e = .returned (.bool (inb c0_0 0 9)) ∧ w = w') := by
 have rsize_setRow := @size_setRow
 have rcell_setRow_lt := @cell_setRow_lt
 have rcell_setRow_gt := @cell_setRow_gt
 have rfrozen_setRow_lt := @frozen_setRow_lt
 have rfrozen_setRow_gt := @frozen_setRow_gt
 go_enter Tryz.func101, Tryz.ntmps101
 go_wp2_with (first | (go_at_call 46; refine (between_c _ _ _ _  ).mono ?_; rintro e wa ⟨rfl, rfl⟩))
 all_goals
  go_ret
  refine ⟨by first | rfl | (simp [*]; done) | (simp [*]; omega) | (simp_all [bq, bn]; done) | (simp_all [bq, bn]; omega), by rfl⟩
set_option maxHeartbeats 1600000 in
set_option maxRecDepth 100000 in
theorem implReadOk_c (w : World) (c0_0 : Int) (c0_1 : Int) (c0_2 : Int) (c0_3 : Int) :
  Calls Tryz.prog 69 #[.agg #[.int .i64 c0_0, .int .i64 c0_1, .int .i64 c0_2, .int .i64 c0_3]] w (RetV w (.bool (rrOk (⟨c0_0, c0_1, c0_2, c0_3⟩ : DRead)))) := by
 have rsize_setRow := @size_setRow
 have rcell_setRow_lt := @cell_setRow_lt
 have rcell_setRow_gt := @cell_setRow_gt
 have rfrozen_setRow_lt := @frozen_setRow_lt
 have rfrozen_setRow_gt := @frozen_setRow_gt
 go_enter Tryz.func69, Tryz.ntmps69
 go_wp2_with (first | (go_at_call 93; refine (implA_R _ _  ).mono ?_; rintro e wa ⟨rfl, rfl⟩) | (go_at_call 94; refine (implS_R _ _  ).mono ?_; rintro e wb ⟨rfl, rfl⟩) | (go_at_call 101; refine (implK_R _ _  ).mono ?_; rintro e wc ⟨rfl, rfl⟩) | (go_at_call 46; refine (between_c _ _ _ _  ).mono ?_; rintro e wd ⟨rfl, rfl⟩))
 all_goals
  go_ret
  refine ⟨by first | rfl | (simp [rrOk, inb, *]; done) | (simp [rrOk, inb, *]; omega) | (simp_all [rrOk, inb, bq, bn]; done) | (simp_all [rrOk, inb, bq, bn]; omega), ?_⟩
  (first | exact extT | omega)
set_option maxHeartbeats 8000000 in
set_option maxRecDepth 100000 in
theorem readBy_k {w : World} {v : Value} {s : DStore} (h : RdStore w v s) (rc rs rk rl : Int) : Calls Tryz.prog 26 #[v, .agg #[.int .i64 rc, .int .i64 rs, .int .i64 rk, .int .i64 rl]] w (RetV w (.tuple #[.agg #[.int .i64 (rbVal s ⟨rc, rs, rk, rl⟩).Client, .int .i64 (rbVal s ⟨rc, rs, rk, rl⟩).Seq, .int .i64 (rbVal s ⟨rc, rs, rk, rl⟩).Index, .int .i64 (rbVal s ⟨rc, rs, rk, rl⟩).Has, .int .i64 (rbVal s ⟨rc, rs, rk, rl⟩).Value], .bool (rbOk s ⟨rc, rs, rk, rl⟩)])) := by
 have H := h
 obtain ⟨t0, t1, t4, t5, rfl, h0, h1, h4, h5⟩ := h
 obtain ⟨a0, n0, k0, rfl⟩ := h0.shape
 obtain ⟨a1, n1, k1, rfl⟩ := h1.shape
 obtain ⟨a4, n4, k4, rfl⟩ := h4.shape
 obtain ⟨a5, n5, k5, rfl⟩ := h5.shape
 have hst : RdState w (.agg #[.int .i64 s.State.Index, .int .i64 s.State.Time, .slice a4 n4 k4, .slice a5 n5 k5, .int .i64 s.State.Lease.Holder, .int .i64 s.State.Lease.Epoch, .int .i64 s.State.Lease.Until]) s.State := ⟨_, _, rfl, h4, h5⟩
 obtain ⟨WP, hWP⟩ : ∃ WP, WP = (w.alloc (.cells #[.slice a0 n0 k0, .slice a1 n1 k1, .int .i64 s.State.Index, .int .i64 s.State.Time, .slice a4 n4 k4, .slice a5 n5 k5, .int .i64 s.State.Lease.Holder, .int .i64 s.State.Lease.Epoch, .int .i64 s.State.Lease.Until, .int .i64 s.Num, .int .i64 s.Last, .int .i64 s.Busy] 65)).alloc (.cells #[.int .i64 rc, .int .i64 rs, .int .i64 rk, .int .i64 rl] 67) := ⟨_, rfl⟩
 have hEP : Ext w WP := by rw [hWP]; exact ((Ext.refl _).alloc _).alloc _
 have hsP : WP.heap.size = w.heap.size + 1 + 1 := by rw [hWP]; simp
 have KP : Blk WP w.heap.size 65 #[.slice a0 n0 k0, .slice a1 n1 k1, .int .i64 s.State.Index, .int .i64 s.State.Time, .slice a4 n4 k4, .slice a5 n5 k5, .int .i64 s.State.Lease.Holder, .int .i64 s.State.Lease.Epoch, .int .i64 s.State.Lease.Until, .int .i64 s.Num, .int .i64 s.Last, .int .i64 s.Busy] := by rw [hWP]; exact (Blk.new _ _ _).alloc _
 have KQ : Blk WP (w.heap.size + 1) 67 #[.int .i64 rc, .int .i64 rs, .int .i64 rk, .int .i64 rl] := by rw [hWP]; exact Blk.new2 _ _ _ _
 obtain ⟨W0, hW0⟩ : ∃ W0, W0 = WP.alloc (.cells #[.int .i64 0, .int .i64 0, .int .i64 0, .int .i64 0, .int .i64 0] 73) := ⟨_, rfl⟩
 have hE0 : Ext WP W0 := by rw [hW0]; exact (Ext.refl _).alloc _
 have hs0 : W0.heap.size = w.heap.size + 1 + 1 + 1 := by rw [hW0]; simp [hsP]
 have KR : Blk W0 (w.heap.size + 1 + 1) 73 #[.int .i64 0, .int .i64 0, .int .i64 0, .int .i64 0, .int .i64 0] := by rw [hW0, ← hsP]; exact Blk.new _ _ _
 have H0 := Lib.hid hW0; have HP := Lib.hid hWP
 clear hW0 hWP
 have hE00 := hEP.trans hE0
 go_enter Tryz.func26, Tryz.ntmps26
 go_wp2_with fail
 rw [← HP.out, ← H0.out]
 refine (storeOk_k (H.ext hE00)).mono ?_
 rintro e w1 ⟨rfl, hx1⟩
 have KP0 := KP.ext hE0; have KQ0 := KQ.ext hE0; have KR0 := KR; have hEW := hE0; have hE0 := hE00
 have KP1 := KP0.ext hx1; have KQ1 := KQ0.ext hx1; have KR1 := KR0.ext hx1; have CP1 := KP1.cell; have CQ1 := KQ1.cell; have CR1 := KR1.cell; have FR1 := KR1.frozen; have hz1 := hx1.size; have hE1 := hE0.trans hx1
 cases hb : storeOk s
 ·
  have hm : rbOk s ⟨rc, rs, rk, rl⟩ = false := by simp [rbOk, hb]
  have HM := Lib.hid hm
  clear hm
  go_wp2_with fail
  have hm := HM.out
  refine bodyPost_ret (by simp [results, Tryz.results26, go_sem, *]; try rfl) rfl ?_
  have hv : rbVal s ⟨rc, rs, rk, rl⟩ = ⟨0, 0, 0, 0, 0⟩ := by simp [rbVal, hm]
  rw [hv, hm]
  exact ⟨rfl, by (first | exact extT | omega)⟩

 have hpo := Lib.hid (storeOk_pairs hb)
 cases hr : rrOk ⟨rc, rs, rk, rl⟩
 ·
  have hm : rbOk s ⟨rc, rs, rk, rl⟩ = false := by simp [rbOk, hr]
  have HM := Lib.hid hm
  clear hm
  go_wp2_with (first | (go_at_call 69; refine (implReadOk_c _ _ _ _ _).mono ?_; rintro e w2 ⟨rfl, hx2⟩; have KP2 := KP1.ext hx2; have KQ2 := KQ1.ext hx2; have KR2 := KR1.ext hx2; have CP2 := KP2.cell; have CQ2 := KQ2.cell; have CR2 := KR2.cell; have FR2 := KR2.frozen; have hz2 := hx2.size; have hE2 := hE1.trans hx2; have hp2 : w.heap.size < w2.heap.size := (by omega); have hq2 : w.heap.size + 1 < w2.heap.size := (by omega); have hr2 : w.heap.size + 1 + 1 < w2.heap.size := (by omega)))
  have hm := HM.out
  refine bodyPost_ret (by simp [results, Tryz.results26, go_sem, *]; try rfl) rfl ?_
  have hv : rbVal s ⟨rc, rs, rk, rl⟩ = ⟨0, 0, 0, 0, 0⟩ := by simp [rbVal, hm]
  rw [hv, hm]
  exact ⟨rfl, by (first | exact extT | omega)⟩

 by_cases hl : s.State.Index < rl
 ·
  have hm : rbOk s ⟨rc, rs, rk, rl⟩ = false := by simp [rbOk, hl]
  have HM := Lib.hid hm
  clear hm
  go_wp2_with (first | (go_at_call 69; refine (implReadOk_c _ _ _ _ _).mono ?_; rintro e w2 ⟨rfl, hx2⟩; have KP2 := KP1.ext hx2; have KQ2 := KQ1.ext hx2; have KR2 := KR1.ext hx2; have CP2 := KP2.cell; have CQ2 := KQ2.cell; have CR2 := KR2.cell; have FR2 := KR2.frozen; have hz2 := hx2.size; have hE2 := hE1.trans hx2; have hp2 : w.heap.size < w2.heap.size := (by omega); have hq2 : w.heap.size + 1 < w2.heap.size := (by omega); have hr2 : w.heap.size + 1 + 1 < w2.heap.size := (by omega)))
  have hm := HM.out
  refine bodyPost_ret (by simp [results, Tryz.results26, go_sem, *]; try rfl) rfl ?_
  have hv : rbVal s ⟨rc, rs, rk, rl⟩ = ⟨0, 0, 0, 0, 0⟩ := by simp [rbVal, hm]
  rw [hv, hm]
  exact ⟨rfl, by (first | exact extT | omega)⟩

 have hm : rbOk s ⟨rc, rs, rk, rl⟩ = true := by simp [rbOk, hb, hr, hl]
 have HM := Lib.hid hm
 have HV : Hid (rbVal s ⟨rc, rs, rk, rl⟩ = ⟨rc, rs, s.State.Index, if vhas s.State.Pairs rk then 1 else 0, vnum s.State.Pairs rk⟩) := Lib.hid (by simp [rbVal, hm])
 clear hm
 go_wp2_with (first | (go_at_call 69; refine (implReadOk_c _ _ _ _ _).mono ?_; rintro e w2 ⟨rfl, hx2⟩; have KP2 := KP1.ext hx2; have KQ2 := KQ1.ext hx2; have KR2 := KR1.ext hx2; have CP2 := KP2.cell; have CQ2 := KQ2.cell; have CR2 := KR2.cell; have FR2 := KR2.frozen; have hz2 := hx2.size; have hE2 := hE1.trans hx2; have hp2 : w.heap.size < w2.heap.size := (by omega); have hq2 : w.heap.size + 1 < w2.heap.size := (by omega); have hr2 : w.heap.size + 1 + 1 < w2.heap.size := (by omega)))
 refine (valueAt_c _ _ s.State.Pairs rk (h4.ext (hE2.trans (by (first | exact extT | omega))))).mono ?_
 rintro e w3 ⟨rfl, hx3⟩
 have KX3 := (Blk.new w2 73 #[.int .i64 rc, .int .i64 rs, .int .i64 s.State.Index, .int .i64 0, .int .i64 0]).ext hx3
 have KR3 := (KR2.alloc _).ext hx3
 have CX3 := KX3.cell; have FX3 := KX3.frozen; have CR3 := KR3.cell; have FR3 := KR3.frozen
 have hE3 : Ext w w3 := (hE2.alloc _).trans hx3
 have hz3 := hx3.size
 simp only [World.size_alloc] at hz3
 cases hh : vhas s.State.Pairs rk
 ·
  have hv0 := Lib.hid (vnum_none hh)
  go_wp2_with fail
  refine bodyPost_ret (by simp [results, Tryz.results26, go_sem, *]; try rfl) rfl ?_
  rw [HV.out, HM.out, hh, hv0.out]
  exact ⟨rfl, by (first | exact extT | omega)⟩
 ·
  go_wp2_with fail
  refine bodyPost_ret (by simp [results, Tryz.results26, go_sem, *]; try rfl) rfl ?_
  rw [HV.out, HM.out, hh]
  exact ⟨rfl, by (first | exact extT | omega)⟩

end Go.Proofs.YthihnangjghloaaGreat

-- A read answered, without the program.
set_option linter.unusedSimpArgs false
set_option linter.unusedVariables false
namespace Go.Proofs.YthihnangjghloaaGreat
open Go.RowKit Go.G8

end Go.Proofs.YthihnangjghloaaGreat
namespace Go.G8
open Go.RowKit
open Go.Proofs.YthihnangjghloaaGreat
theorem rb_no {s : DStore} {r : DRead} (h : storeOk s = false ∨ rrOk r = false) : rbOk s r = false := by
 unfold rbOk
 rcases h with h | h
 ·
  rw [h]; rfl
 ·
  rw [h]; simp
theorem readOk_least {a b c e i : Int} (h : rrOk (⟨a, b, c, e⟩ : DRead) = true) (h0 : 0 ≤ i) (h1 : i ≤ 2000) : rrOk (⟨a, b, c, i⟩ : DRead) = true := by
 simp only [rrOk, Bool.and_eq_true] at h ⊢
 exact ⟨h.1, h.2.1, h.2.2.1, inb_of h0 h1⟩
theorem rb_yes {s : DStore} {a b c e : Int} (h : storeOk s = true) (hr : rrOk (⟨a, b, c, e⟩ : DRead) = true) : rbOk s ⟨a, b, c, s.State.Index⟩ = true ∧ rbVal s ⟨a, b, c, s.State.Index⟩ = ⟨a, b, s.State.Index, if vhas s.State.Pairs c then 1 else 0, vnum s.State.Pairs c⟩ := by
 have hi := stateOk_index (storeOk_state h)
 have h1 : rbOk s ⟨a, b, c, s.State.Index⟩ = true := by
  unfold rbOk
  rw [h, readOk_least hr hi.1 hi.2]
  simp
 exact ⟨h1, by unfold rbVal; rw [if_pos h1]⟩
theorem rb_late {s : DStore} {a b c : Int} : rbOk s ⟨a, b, c, s.State.Index + 1⟩ = false := by
 unfold rbOk
 have : decide (s.State.Index < s.State.Index + 1) = true := by simp; omega
 simp only [this]
 simp
end Go.G8
namespace Go.Proofs.YthihnangjghloaaGreat
open Go.RowKit Go.G8

end Go.Proofs.YthihnangjghloaaGreat
