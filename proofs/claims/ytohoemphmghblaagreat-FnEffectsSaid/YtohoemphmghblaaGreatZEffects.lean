/- The statement FnEffects: the walk and the row. -/
import Derived.Test.YtohoemphmghblaaGreatGq
import Derived.Test.YtohoemphmghblaaGreatGj
import Derived.Test.YtohoemphmghblaaGreatGk
import Derived.Test.YtohoemphmghblaaGreatGp
import Derived.Test.YtohoemphmghblaaGreatGc
-- The statement's walk: FnEffects.
set_option linter.unusedSimpArgs false
set_option linter.unusedVariables false
namespace Go.Proofs.YtohoemphmghblaaGreat
open Go.RowKit Go.G8

set_option maxHeartbeats 8000000 in
set_option maxRecDepth 100000 in
theorem law_Effects (w : World) (v : Value) (h : Bytes w v) : Calls Tryz.prog 6 #[v] w (RetV w (.bool true)) := by
  obtain ⟨bs, hbs, hbo⟩ := h
  obtain ⟨a, n, k, rfl⟩ := hbs.shape
  have HB : Bytes w (.slice a n k) := ⟨bs, hbs, hbo⟩
  clear hbs hbo
  have E0 : Ext w w := Ext.refl _
  go_enter Tryz.func6, Tryz.ntmps6
  go_wp2_with fail
  refine (big_c _ a n k).mono ?_
  rintro e9 w9 ⟨rfl, rfl⟩
  by_cases hbig : (4096 : Int) < (n : Int)
  · go_wp2_with fail
    go_ret
    exact ⟨rfl, by exact extT⟩
  go_wp2_with fail
  refine (drawApplied_c (HB.ext (by exact extT))).mono ?_
  rintro e w1 ⟨_, rfl, hx1, t, s, ei, et, ec, es, ok, oa, ob, oc, od, rfl, gs0⟩
  have X1 : Ext w w1 := Ext.trans (by exact extT) hx1
  have hz1 := X1.size
  have hy1 := hx1.size; (try simp only [World.size_alloc, World.size_setCell, size_setRow, size_drew] at hy1)
  have HB := HB.ext X1
  have E1 : Ext w w1 := E0.trans X1
  clear hx1 X1
  have gs := gs0.rd; clear gs0
  obtain ⟨a2, n2, k2, a3, n3, k3, rfl⟩ := gs.shape
  obtain ⟨D, hD⟩ : ∃ D, D = appD s ⟨ei, et, ec, es, ⟨ok, oa, ob, oc, od⟩⟩ := ⟨_, rfl⟩
  obtain ⟨E, hE⟩ : ∃ E, E = effAt s ⟨ei, et, ec, es, ⟨ok, oa, ob, oc, od⟩⟩ := ⟨_, rfl⟩
  obtain ⟨b, hb⟩ : ∃ b, b = appOk s ⟨ei, et, ec, es, ⟨ok, oa, ob, oc, od⟩⟩ := ⟨_, rfl⟩
  have hfi : b = true → stateOk s = true ∧ stateOk D = true ∧ D.Index = ei ∧ D.Time = et ∧ 0 ≤ E ∧ EffSays s D ⟨ei, et, ec, es, ⟨ok, oa, ob, oc, od⟩⟩ E := by
    intro h
    rw [hb] at h
    have h9 := h
    unfold appOk at h9
    rw [Bool.and_eq_true] at h9
    have eD : D = stepS s ⟨ei, et, ec, es, ⟨ok, oa, ob, oc, od⟩⟩ := by rw [hD]; unfold appD; rw [if_pos h9.1, if_pos h9.2]
    have eE : E = effS s ⟨ei, et, ec, es, ⟨ok, oa, ob, oc, od⟩⟩ := by rw [hE]; unfold effAt; rw [if_pos (show (stateOk s && nextIn s ⟨ei, et, ec, es, ⟨ok, oa, ob, oc, od⟩⟩) = true from h)]
    have h8 := eff_says h9.1 h9.2
    refine ⟨h9.1, by rw [hD]; exact appD_ok h9.1, by rw [eD]; exact stepS_at.1, by rw [eD]; exact stepS_at.2, ?_, by rw [eD, eE]; exact h8⟩
    rw [eE]; rcases h8 with h | h | h | h | h | h <;> omega
  have hfn : b = false → E = -1 := by
    intro h
    rw [hE]; unfold effAt; rw [if_neg]; rw [hb] at h; unfold appOk at h; simp [h]
  have HFI := Lib.hid hfi; have HFN := Lib.hid hfn; clear hfi hfn
  have HD := Lib.hid hD; have HE := Lib.hid hE; have HBB := Lib.hid hb; clear hD hE hb
  go_wp2_with fail
  refine (sApplied_k (gs.ext (by exact extT)) ei et ec es ok oa ob oc od).mono ?_
  rintro e w2 ⟨_, rfl, hx2, u, rfl, gu0⟩
  have X2 : Ext w1 w2 := Ext.trans (by exact extT) hx2
  have hz2 := X2.size
  have hy2 := hx2.size; (try simp only [World.size_alloc, World.size_setCell, size_setRow, size_drew] at hy2)
  have KS2 : Blk w2 w1.heap.size 46 #[.int .i64 s.Index, .int .i64 s.Time, .slice a2 n2 k2, .slice a3 n3 k3, .int .i64 s.Lease.Holder, .int .i64 s.Lease.Epoch, .int .i64 s.Lease.Until] := Blk.ext (Blk.cast (by exact blkT) setsT) hx2
  have KT2 : Blk w2 (w1.heap.size + 1) 80 #[.int .i64 ei, .int .i64 et, .int .i64 ec, .int .i64 es, .int .i64 ok, .int .i64 oa, .int .i64 ob, .int .i64 oc, .int .i64 od] := Blk.ext (Blk.cast (by exact blkT) setsT) hx2
  have gs := gs.ext X2
  have E2 : Ext w w2 := E1.trans X2
  clear hx2 X2 E1
  have CS2 := KS2.cell; have FS2 := KS2.frozen; have LS2 := KS2.lt
  have CT2 := KT2.cell; have FT2 := KT2.frozen; have LT2 := KT2.lt
  rw [← HD.out] at gu0; rw [← HBB.out]
  have gu := gu0.rd; clear gu0
  obtain ⟨a2u, n2u, k2u, a3u, n3u, k3u, rfl⟩ := gu.shape
  go_wp2_with fail
  refine (applied_e (gs.ext (by exact extT)) ei et ec es ok oa ob oc od).mono ?_
  rintro e w3 ⟨_, rfl, hx3, u2, rfl, gv0⟩
  have X3 : Ext w2 w3 := Ext.trans (by exact extT) hx3
  have hz3 := X3.size
  have hy3 := hx3.size; (try simp only [World.size_alloc, World.size_setCell, size_setRow, size_drew] at hy3)
  have KS3 : Blk w3 w1.heap.size 46 #[.int .i64 s.Index, .int .i64 s.Time, .slice a2 n2 k2, .slice a3 n3 k3, .int .i64 s.Lease.Holder, .int .i64 s.Lease.Epoch, .int .i64 s.Lease.Until] := Blk.ext (Blk.cast (by exact blkT) setsT) hx3
  clear KS2
  have KT3 : Blk w3 (w1.heap.size + 1) 80 #[.int .i64 ei, .int .i64 et, .int .i64 ec, .int .i64 es, .int .i64 ok, .int .i64 oa, .int .i64 ob, .int .i64 oc, .int .i64 od] := Blk.ext (Blk.cast (by exact blkT) setsT) hx3
  clear KT2
  have KU3 : Blk w3 w2.heap.size 46 #[.int .i64 D.Index, .int .i64 D.Time, .slice a2u n2u k2u, .slice a3u n3u k3u, .int .i64 D.Lease.Holder, .int .i64 D.Lease.Epoch, .int .i64 D.Lease.Until] := Blk.ext (Blk.cast (by exact blkT) setsT) hx3
  have gs := gs.ext X3
  have gu := gu.ext X3
  have E3 : Ext w w3 := E2.trans X3
  clear hx3 X3 E2
  clear CS2 FS2 LS2 CT2 FT2 LT2
  have CS3 := KS3.cell; have FS3 := KS3.frozen; have LS3 := KS3.lt
  have CT3 := KT3.cell; have FT3 := KT3.frozen; have LT3 := KT3.lt
  have CU3 := KU3.cell; have FU3 := KU3.frozen; have LU3 := KU3.lt
  rw [← HD.out] at gv0; rw [← HBB.out]
  have gv := gv0.rd; clear gv0
  obtain ⟨a2v, n2v, k2v, a3v, n3v, k3v, rfl⟩ := gv.shape
  go_wp2_with fail
  refine (effectOf_e (gs.ext (by exact extT)) ei et ec es ok oa ob oc od).mono ?_
  rintro e w4 ⟨rfl, hx4⟩
  have X4 : Ext w3 w4 := Ext.trans (by exact extT) hx4
  have hz4 := X4.size
  have hy4 := hx4.size; (try simp only [World.size_alloc, World.size_setCell, size_setRow, size_drew] at hy4)
  have KS4 : Blk w4 w1.heap.size 46 #[.int .i64 s.Index, .int .i64 s.Time, .slice a2 n2 k2, .slice a3 n3 k3, .int .i64 s.Lease.Holder, .int .i64 s.Lease.Epoch, .int .i64 s.Lease.Until] := Blk.ext (Blk.cast (by exact blkT) setsT) hx4
  clear KS3
  have KT4 : Blk w4 (w1.heap.size + 1) 80 #[.int .i64 ei, .int .i64 et, .int .i64 ec, .int .i64 es, .int .i64 ok, .int .i64 oa, .int .i64 ob, .int .i64 oc, .int .i64 od] := Blk.ext (Blk.cast (by exact blkT) setsT) hx4
  clear KT3
  have KU4 : Blk w4 w2.heap.size 46 #[.int .i64 D.Index, .int .i64 D.Time, .slice a2u n2u k2u, .slice a3u n3u k3u, .int .i64 D.Lease.Holder, .int .i64 D.Lease.Epoch, .int .i64 D.Lease.Until] := Blk.ext (Blk.cast (by exact blkT) setsT) hx4
  clear KU3
  have KV4 : Blk w4 w3.heap.size 46 #[.int .i64 D.Index, .int .i64 D.Time, .slice a2v n2v k2v, .slice a3v n3v k3v, .int .i64 D.Lease.Holder, .int .i64 D.Lease.Epoch, .int .i64 D.Lease.Until] := Blk.ext (Blk.cast (by exact blkT) setsT) hx4
  have gs := gs.ext X4
  have gu := gu.ext X4
  have gv := gv.ext X4
  have E4 : Ext w w4 := E3.trans X4
  clear hx4 X4 E3
  clear CS3 FS3 LS3 CT3 FT3 LT3 CU3 FU3 LU3
  have CS4 := KS4.cell; have FS4 := KS4.frozen; have LS4 := KS4.lt
  have CT4 := KT4.cell; have FT4 := KT4.frozen; have LT4 := KT4.lt
  have CU4 := KU4.cell; have FU4 := KU4.frozen; have LU4 := KU4.lt
  have CV4 := KV4.cell; have FV4 := KV4.frozen; have LV4 := KV4.lt
  rw [← HE.out]
  cases b
  · skip
    have hEn := HFN.out rfl
    subst hEn
    go_wp2_with fail
    refine (sEffectOf_k (gs.ext (by exact extT)) ei et ec es ok oa ob oc od).mono ?_
    rintro e w5 ⟨rfl, hx5⟩
    have X5 : Ext w4 w5 := Ext.trans (by exact extT) hx5
    have hz5 := X5.size
    have hy5 := hx5.size; (try simp only [World.size_alloc, World.size_setCell, size_setRow, size_drew] at hy5)
    have KS5 : Blk w5 w1.heap.size 46 #[.int .i64 s.Index, .int .i64 s.Time, .slice a2 n2 k2, .slice a3 n3 k3, .int .i64 s.Lease.Holder, .int .i64 s.Lease.Epoch, .int .i64 s.Lease.Until] := Blk.ext (Blk.cast (by exact blkT) setsT) hx5
    clear KS4
    have KT5 : Blk w5 (w1.heap.size + 1) 80 #[.int .i64 ei, .int .i64 et, .int .i64 ec, .int .i64 es, .int .i64 ok, .int .i64 oa, .int .i64 ob, .int .i64 oc, .int .i64 od] := Blk.ext (Blk.cast (by exact blkT) setsT) hx5
    clear KT4
    have KU5 : Blk w5 w2.heap.size 46 #[.int .i64 D.Index, .int .i64 D.Time, .slice a2u n2u k2u, .slice a3u n3u k3u, .int .i64 D.Lease.Holder, .int .i64 D.Lease.Epoch, .int .i64 D.Lease.Until] := Blk.ext (Blk.cast (by exact blkT) setsT) hx5
    clear KU4
    have KV5 : Blk w5 w3.heap.size 46 #[.int .i64 D.Index, .int .i64 D.Time, .slice a2v n2v k2v, .slice a3v n3v k3v, .int .i64 D.Lease.Holder, .int .i64 D.Lease.Epoch, .int .i64 D.Lease.Until] := Blk.ext (Blk.cast (by exact blkT) setsT) hx5
    clear KV4
    have gs := gs.ext X5
    have gu := gu.ext X5
    have gv := gv.ext X5
    have E5 : Ext w w5 := E4.trans X5
    clear hx5 X5 E4
    clear CS4 FS4 LS4 CT4 FT4 LT4 CU4 FU4 LU4 CV4 FV4 LV4
    have CS5 := KS5.cell; have FS5 := KS5.frozen; have LS5 := KS5.lt
    have CT5 := KT5.cell; have FT5 := KT5.frozen; have LT5 := KT5.lt
    have CU5 := KU5.cell; have FU5 := KU5.frozen; have LU5 := KU5.lt
    have CV5 := KV5.cell; have FV5 := KV5.frozen; have LV5 := KV5.lt
    rw [← HE.out]
    go_wp2_with fail
    refine (nextIn_e (gs.ext (by exact extT)) ei et ec es ok oa ob oc od).mono ?_
    rintro e w6 ⟨rfl, hx6⟩
    have X6 : Ext w5 w6 := Ext.trans (by exact extT) hx6
    have hz6 := X6.size
    have hy6 := hx6.size; (try simp only [World.size_alloc, World.size_setCell, size_setRow, size_drew] at hy6)
    have KS6 : Blk w6 w1.heap.size 46 #[.int .i64 s.Index, .int .i64 s.Time, .slice a2 n2 k2, .slice a3 n3 k3, .int .i64 s.Lease.Holder, .int .i64 s.Lease.Epoch, .int .i64 s.Lease.Until] := Blk.ext (Blk.cast (by exact blkT) setsT) hx6
    clear KS5
    have KT6 : Blk w6 (w1.heap.size + 1) 80 #[.int .i64 ei, .int .i64 et, .int .i64 ec, .int .i64 es, .int .i64 ok, .int .i64 oa, .int .i64 ob, .int .i64 oc, .int .i64 od] := Blk.ext (Blk.cast (by exact blkT) setsT) hx6
    clear KT5
    have KU6 : Blk w6 w2.heap.size 46 #[.int .i64 D.Index, .int .i64 D.Time, .slice a2u n2u k2u, .slice a3u n3u k3u, .int .i64 D.Lease.Holder, .int .i64 D.Lease.Epoch, .int .i64 D.Lease.Until] := Blk.ext (Blk.cast (by exact blkT) setsT) hx6
    clear KU5
    have KV6 : Blk w6 w3.heap.size 46 #[.int .i64 D.Index, .int .i64 D.Time, .slice a2v n2v k2v, .slice a3v n3v k3v, .int .i64 D.Lease.Holder, .int .i64 D.Lease.Epoch, .int .i64 D.Lease.Until] := Blk.ext (Blk.cast (by exact blkT) setsT) hx6
    clear KV5
    have gs := gs.ext X6
    have gu := gu.ext X6
    have gv := gv.ext X6
    have E6 : Ext w w6 := E5.trans X6
    clear hx6 X6 E5
    clear CS5 FS5 LS5 CT5 FT5 LT5 CU5 FU5 LU5 CV5 FV5 LV5
    have CS6 := KS6.cell; have FS6 := KS6.frozen; have LS6 := KS6.lt
    have CT6 := KT6.cell; have FT6 := KT6.frozen; have LT6 := KT6.lt
    have CU6 := KU6.cell; have FU6 := KU6.frozen; have LU6 := KU6.lt
    have CV6 := KV6.cell; have FV6 := KV6.frozen; have LV6 := KV6.lt
    rw [← HBB.out]
    go_wp2_with fail
    go_ret
    exact ⟨by first | rfl | (simp [*]; done), by exact extT⟩
  · skip
    obtain ⟨hs, hDo, hDi, hDt, hE0, hsay⟩ := HFI.out rfl
    have dE : decide (E ≥ 0) = true := by simpa using hE0
    have dE2 : decide (0 ≤ E) = true := by simpa using hE0
    have hsa := Lib.hid hsay; clear hsay
    have hDi2 : (D.Index == ei) = true := by simp [hDi]
    have hDt2 : (D.Time == et) = true := by simp [hDt]
    have hDi3 : (D.Index != ei) = false := by simp [hDi]
    have hDt3 : (D.Time != et) = false := by simp [hDt]
    have HDI := Lib.hid hDi; have HDT := Lib.hid hDt; clear hDi hDt
    go_wp2_with fail
    refine (sEffectOf_k (gs.ext (by exact extT)) ei et ec es ok oa ob oc od).mono ?_
    rintro e w5 ⟨rfl, hx5⟩
    have X5 : Ext w4 w5 := Ext.trans (by exact extT) hx5
    have hz5 := X5.size
    have hy5 := hx5.size; (try simp only [World.size_alloc, World.size_setCell, size_setRow, size_drew] at hy5)
    have KS5 : Blk w5 w1.heap.size 46 #[.int .i64 s.Index, .int .i64 s.Time, .slice a2 n2 k2, .slice a3 n3 k3, .int .i64 s.Lease.Holder, .int .i64 s.Lease.Epoch, .int .i64 s.Lease.Until] := Blk.ext (Blk.cast (by exact blkT) setsT) hx5
    clear KS4
    have KT5 : Blk w5 (w1.heap.size + 1) 80 #[.int .i64 ei, .int .i64 et, .int .i64 ec, .int .i64 es, .int .i64 ok, .int .i64 oa, .int .i64 ob, .int .i64 oc, .int .i64 od] := Blk.ext (Blk.cast (by exact blkT) setsT) hx5
    clear KT4
    have KU5 : Blk w5 w2.heap.size 46 #[.int .i64 D.Index, .int .i64 D.Time, .slice a2u n2u k2u, .slice a3u n3u k3u, .int .i64 D.Lease.Holder, .int .i64 D.Lease.Epoch, .int .i64 D.Lease.Until] := Blk.ext (Blk.cast (by exact blkT) setsT) hx5
    clear KU4
    have KV5 : Blk w5 w3.heap.size 46 #[.int .i64 D.Index, .int .i64 D.Time, .slice a2v n2v k2v, .slice a3v n3v k3v, .int .i64 D.Lease.Holder, .int .i64 D.Lease.Epoch, .int .i64 D.Lease.Until] := Blk.ext (Blk.cast (by exact blkT) setsT) hx5
    clear KV4
    have gs := gs.ext X5
    have gu := gu.ext X5
    have gv := gv.ext X5
    have E5 : Ext w w5 := E4.trans X5
    clear hx5 X5 E4
    clear CS4 FS4 LS4 CT4 FT4 LT4 CU4 FU4 LU4 CV4 FV4 LV4
    have CS5 := KS5.cell; have FS5 := KS5.frozen; have LS5 := KS5.lt
    have CT5 := KT5.cell; have FT5 := KT5.frozen; have LT5 := KT5.lt
    have CU5 := KU5.cell; have FU5 := KU5.frozen; have LU5 := KU5.lt
    have CV5 := KV5.cell; have FV5 := KV5.frozen; have LV5 := KV5.lt
    rw [← HE.out]
    have gs2 := gs; have gv2 := gv
    obtain ⟨_, _, es9, gs3, gs4⟩ := gs2; obtain ⟨_, _, ev9, gv3, gv4⟩ := gv2
    injection es9 with es9; simp only [Array.mk.injEq, List.cons.injEq, and_true, true_and] at es9; obtain ⟨e1, e2⟩ := es9; subst e1; subst e2
    injection ev9 with ev9; simp only [Array.mk.injEq, List.cons.injEq, and_true, true_and] at ev9; obtain ⟨e1, e2⟩ := ev9; subst e1; subst e2
    go_wp2_with fail
    refine (sSamePairs_c (gv3.ext (by exact extT)) (gs3.ext (by exact extT))).mono ?_
    rintro e w6 ⟨hx6, r1, rfl, hr1⟩
    have X6 : Ext w5 w6 := Ext.trans (by exact extT) hx6
    have hz6 := X6.size
    have hy6 := hx6.size; (try simp only [World.size_alloc, World.size_setCell, size_setRow, size_drew] at hy6)
    have KS6 : Blk w6 w1.heap.size 46 #[.int .i64 s.Index, .int .i64 s.Time, .slice a2 n2 k2, .slice a3 n3 k3, .int .i64 s.Lease.Holder, .int .i64 s.Lease.Epoch, .int .i64 s.Lease.Until] := Blk.ext (Blk.cast (by exact blkT) setsT) hx6
    clear KS5
    have KT6 : Blk w6 (w1.heap.size + 1) 80 #[.int .i64 ei, .int .i64 et, .int .i64 ec, .int .i64 es, .int .i64 ok, .int .i64 oa, .int .i64 ob, .int .i64 oc, .int .i64 od] := Blk.ext (Blk.cast (by exact blkT) setsT) hx6
    clear KT5
    have KU6 : Blk w6 w2.heap.size 46 #[.int .i64 D.Index, .int .i64 D.Time, .slice a2u n2u k2u, .slice a3u n3u k3u, .int .i64 D.Lease.Holder, .int .i64 D.Lease.Epoch, .int .i64 D.Lease.Until] := Blk.ext (Blk.cast (by exact blkT) setsT) hx6
    clear KU5
    have KV6 : Blk w6 w3.heap.size 46 #[.int .i64 D.Index, .int .i64 D.Time, .slice a2v n2v k2v, .slice a3v n3v k3v, .int .i64 D.Lease.Holder, .int .i64 D.Lease.Epoch, .int .i64 D.Lease.Until] := Blk.ext (Blk.cast (by exact blkT) setsT) hx6
    clear KV5
    have gs := gs.ext X6
    have gu := gu.ext X6
    have gv := gv.ext X6
    have gs3 := gs3.ext X6
    have gs4 := gs4.ext X6
    have gv3 := gv3.ext X6
    have gv4 := gv4.ext X6
    have E6 : Ext w w6 := E5.trans X6
    clear hx6 X6 E5
    clear CS5 FS5 LS5 CT5 FT5 LT5 CU5 FU5 LU5 CV5 FV5 LV5
    have CS6 := KS6.cell; have FS6 := KS6.frozen; have LS6 := KS6.lt
    have CT6 := KT6.cell; have FT6 := KT6.frozen; have LT6 := KT6.lt
    have CU6 := KU6.cell; have FU6 := KU6.frozen; have LU6 := KU6.lt
    have CV6 := KV6.cell; have FV6 := KV6.frozen; have LV6 := KV6.lt
    go_wp2_with fail
    refine (sSameJobs_c (gv4.ext (by exact extT)) (gs4.ext (by exact extT))).mono ?_
    rintro e w7 ⟨hx7, r2, rfl, hr2⟩
    have X7 : Ext w6 w7 := Ext.trans (by exact extT) hx7
    have hz7 := X7.size
    have hy7 := hx7.size; (try simp only [World.size_alloc, World.size_setCell, size_setRow, size_drew] at hy7)
    have KS7 : Blk w7 w1.heap.size 46 #[.int .i64 s.Index, .int .i64 s.Time, .slice a2 n2 k2, .slice a3 n3 k3, .int .i64 s.Lease.Holder, .int .i64 s.Lease.Epoch, .int .i64 s.Lease.Until] := Blk.ext (Blk.cast (by exact blkT) setsT) hx7
    clear KS6
    have KT7 : Blk w7 (w1.heap.size + 1) 80 #[.int .i64 ei, .int .i64 et, .int .i64 ec, .int .i64 es, .int .i64 ok, .int .i64 oa, .int .i64 ob, .int .i64 oc, .int .i64 od] := Blk.ext (Blk.cast (by exact blkT) setsT) hx7
    clear KT6
    have KU7 : Blk w7 w2.heap.size 46 #[.int .i64 D.Index, .int .i64 D.Time, .slice a2u n2u k2u, .slice a3u n3u k3u, .int .i64 D.Lease.Holder, .int .i64 D.Lease.Epoch, .int .i64 D.Lease.Until] := Blk.ext (Blk.cast (by exact blkT) setsT) hx7
    clear KU6
    have KV7 : Blk w7 w3.heap.size 46 #[.int .i64 D.Index, .int .i64 D.Time, .slice a2v n2v k2v, .slice a3v n3v k3v, .int .i64 D.Lease.Holder, .int .i64 D.Lease.Epoch, .int .i64 D.Lease.Until] := Blk.ext (Blk.cast (by exact blkT) setsT) hx7
    clear KV6
    have gs := gs.ext X7
    have gu := gu.ext X7
    have gv := gv.ext X7
    have gs3 := gs3.ext X7
    have gs4 := gs4.ext X7
    have gv3 := gv3.ext X7
    have gv4 := gv4.ext X7
    have E7 : Ext w w7 := E6.trans X7
    clear hx7 X7 E6
    clear CS6 FS6 LS6 CT6 FT6 LT6 CU6 FU6 LU6 CV6 FV6 LV6
    have CS7 := KS7.cell; have FS7 := KS7.frozen; have LS7 := KS7.lt
    have CT7 := KT7.cell; have FT7 := KT7.frozen; have LT7 := KT7.lt
    have CU7 := KU7.cell; have FU7 := KU7.frozen; have LU7 := KU7.lt
    have CV7 := KV7.cell; have FV7 := KV7.frozen; have LV7 := KV7.lt
    have hr1 := hr1 (stateOk_parts hDo).2.2.2.1 (stateOk_parts hs).2.2.2.1; have hr2 := hr2 (stateOk_parts hDo).2.2.2.2.1 (stateOk_parts hs).2.2.2.2.1
    have hr1 := Lib.hid hr1; have hr2 := Lib.hid hr2
    go_wp2_with fail
    refine (sSameState_k (gv.ext (by exact extT)) (gu.ext (by exact extT)) hDo).mono ?_
    rintro e w8 ⟨rfl, hx8⟩
    have X8 : Ext w7 w8 := Ext.trans (by exact extT) hx8
    have hz8 := X8.size
    have hy8 := hx8.size; (try simp only [World.size_alloc, World.size_setCell, size_setRow, size_drew] at hy8)
    have KS8 : Blk w8 w1.heap.size 46 #[.int .i64 s.Index, .int .i64 s.Time, .slice a2 n2 k2, .slice a3 n3 k3, .int .i64 s.Lease.Holder, .int .i64 s.Lease.Epoch, .int .i64 s.Lease.Until] := Blk.ext (Blk.cast (by exact blkT) setsT) hx8
    clear KS7
    have KT8 : Blk w8 (w1.heap.size + 1) 80 #[.int .i64 ei, .int .i64 et, .int .i64 ec, .int .i64 es, .int .i64 ok, .int .i64 oa, .int .i64 ob, .int .i64 oc, .int .i64 od] := Blk.ext (Blk.cast (by exact blkT) setsT) hx8
    clear KT7
    have KU8 : Blk w8 w2.heap.size 46 #[.int .i64 D.Index, .int .i64 D.Time, .slice a2u n2u k2u, .slice a3u n3u k3u, .int .i64 D.Lease.Holder, .int .i64 D.Lease.Epoch, .int .i64 D.Lease.Until] := Blk.ext (Blk.cast (by exact blkT) setsT) hx8
    clear KU7
    have KV8 : Blk w8 w3.heap.size 46 #[.int .i64 D.Index, .int .i64 D.Time, .slice a2v n2v k2v, .slice a3v n3v k3v, .int .i64 D.Lease.Holder, .int .i64 D.Lease.Epoch, .int .i64 D.Lease.Until] := Blk.ext (Blk.cast (by exact blkT) setsT) hx8
    clear KV7
    have gs := gs.ext X8
    have gu := gu.ext X8
    have gv := gv.ext X8
    have gs3 := gs3.ext X8
    have gs4 := gs4.ext X8
    have gv3 := gv3.ext X8
    have gv4 := gv4.ext X8
    have E8 : Ext w w8 := E7.trans X8
    clear hx8 X8 E7
    clear CS7 FS7 LS7 CT7 FT7 LT7 CU7 FU7 LU7 CV7 FV7 LV7
    have CS8 := KS8.cell; have FS8 := KS8.frozen; have LS8 := KS8.lt
    have CT8 := KT8.cell; have FT8 := KT8.frozen; have LT8 := KT8.lt
    have CU8 := KU8.cell; have FU8 := KU8.frozen; have LU8 := KU8.lt
    have CV8 := KV8.cell; have FV8 := KV8.frozen; have LV8 := KV8.lt
    have hsay := hsa.out; clear hsa; unfold EffSays at hsay
    rcases hsay with hsay | hsay | hsay | hsay | hsay | hsay
    · skip
      obtain ⟨rfl, hp, hj, hl⟩ := hsay
      obtain rfl := hr1.out hp; obtain rfl := hr2.out hj
      clear hp hj
      have l1 : (D.Lease.Holder == s.Lease.Holder) = true := by rw [hl]; simp
      have l2 : (D.Lease.Epoch == s.Lease.Epoch) = true := by rw [hl]; simp
      have l3 : (D.Lease.Until == s.Lease.Until) = true := by rw [hl]; simp
      have l4 := congrArg DLease.Holder hl; have l5 := congrArg DLease.Epoch hl; have l6 := congrArg DLease.Until hl
      clear hl
      go_wp2_with fail
      go_ret
      exact ⟨by first | rfl | (simp [*]; done), by exact extT⟩
    · skip
      obtain ⟨rfl, hj, hl⟩ := hsay
      obtain rfl := hr2.out hj
      clear hj
      have l1 : (D.Lease.Holder == s.Lease.Holder) = true := by rw [hl]; simp
      have l2 : (D.Lease.Epoch == s.Lease.Epoch) = true := by rw [hl]; simp
      have l3 : (D.Lease.Until == s.Lease.Until) = true := by rw [hl]; simp
      have l4 := congrArg DLease.Holder hl; have l5 := congrArg DLease.Epoch hl; have l6 := congrArg DLease.Until hl
      clear hl
      go_wp2_with fail
      go_ret
      exact ⟨by first | rfl | (simp [*]; done), by exact extT⟩
    · skip
      obtain ⟨rfl, hj, hl⟩ := hsay
      obtain rfl := hr2.out hj
      clear hj
      have l1 : (D.Lease.Holder == s.Lease.Holder) = true := by rw [hl]; simp
      have l2 : (D.Lease.Epoch == s.Lease.Epoch) = true := by rw [hl]; simp
      have l3 : (D.Lease.Until == s.Lease.Until) = true := by rw [hl]; simp
      have l4 := congrArg DLease.Holder hl; have l5 := congrArg DLease.Epoch hl; have l6 := congrArg DLease.Until hl
      clear hl
      go_wp2_with fail
      go_ret
      exact ⟨by first | rfl | (simp [*]; done), by exact extT⟩
    · skip
      obtain ⟨rfl, hp, hl, hn⟩ := hsay
      obtain rfl := hr1.out hp
      clear hp
      have l1 : (D.Lease.Holder == s.Lease.Holder) = true := by rw [hl]; simp
      have l2 : (D.Lease.Epoch == s.Lease.Epoch) = true := by rw [hl]; simp
      have l3 : (D.Lease.Until == s.Lease.Until) = true := by rw [hl]; simp
      have l4 := congrArg DLease.Holder hl; have l5 := congrArg DLease.Epoch hl; have l6 := congrArg DLease.Until hl
      clear hl
      have en1 : n3v = D.Jobs.length := by obtain ⟨_, m, _, e, hl, _⟩ := gv4; injection e with _ e _; simp only [List.length_map, length_flJob] at hl; omega
      have en2 : n3 = s.Jobs.length := by obtain ⟨_, m, _, e, hl, _⟩ := gs4; injection e with _ e _; simp only [List.length_map, length_flJob] at hl; omega
      subst en1; subst en2
      have n5 : IntKind.i64.wrap ((s.Jobs.length : Int) + 1) = (D.Jobs.length : Int) := by have hb8 := (stateOk_lens hs).2; rw [IntKind.wrap_i64] <;> omega
      go_wp2_with fail
      go_ret
      exact ⟨by first | rfl | (simp [*]; done), by exact extT⟩
    · skip
      obtain ⟨rfl, hf, hl, hn⟩ := hsay
      have l1 : (D.Lease.Holder == s.Lease.Holder) = true := by rw [hl]; simp
      have l2 : (D.Lease.Epoch == s.Lease.Epoch) = true := by rw [hl]; simp
      have l3 : (D.Lease.Until == s.Lease.Until) = true := by rw [hl]; simp
      have l4 := congrArg DLease.Holder hl; have l5 := congrArg DLease.Epoch hl; have l6 := congrArg DLease.Until hl
      clear hl
      have hft : (appOk s ⟨ei, et, ec, es, ⟨ok, oa, ob, oc, od⟩⟩ && fires s ⟨ei, et, ec, es, ⟨ok, oa, ob, oc, od⟩⟩) = true := by rw [hf]; rw [← HBB.out]; rfl
      have HFT := Lib.hid hft; have HN := Lib.hid hn; clear hf hft hn
      have hb8 := (stateOk_lens hs).2; have hb9 := openD_len s.Jobs; have hb7 := openD_len D.Jobs
      go_wp2_with fail
      refine wp_region_held_drew (S := fun w' => Ext w8 w') (by kernel_rfl) (by (try dsimp only); exact Ext.drew (Ext.refl _)) (fun hHeld => ?_)
      refine wpAnyH_take (i := 0) (v := ?_) rfl (by kernel_rfl) (by kernel_rfl) (by kernel_rfl) (fun _ _ _ h => h) (Or.inl ⟨by rfl, ?_⟩) (by assumption) ?_
      rotate_left
      focus (intro w hSw; (try dsimp only at hSw); have hq := (KS8.ext hSw).cell; have hq2 := (KS8.ext hSw).lt; go_simp <;> with_reducible rfl)
      (try simp only [List.getElem_toArray, List.getElem_cons_zero, List.getElem_cons_succ, Act.put, List.setIfInBounds_toArray, List.set_cons_zero, List.set_cons_succ])
      refine wpAnyH_take (i := 1) (v := ?_) rfl (by kernel_rfl) (by kernel_rfl) (by kernel_rfl) (fun _ _ _ h => h) (Or.inl ⟨by rfl, ?_⟩) (by assumption) ?_
      rotate_left
      focus (intro w hSw; (try dsimp only at hSw); have hq := (KT8.ext hSw).cell; have hq2 := (KT8.ext hSw).lt; go_simp <;> with_reducible rfl)
      (try simp only [List.getElem_toArray, List.getElem_cons_zero, List.getElem_cons_succ, Act.put, List.setIfInBounds_toArray, List.set_cons_zero, List.set_cons_succ])
      refine wpAnyH_ready (rs := [2]) (by kernel_rfl) (by simp) ?_
      refine AllReadyH.cons rfl (fun Kz hKz => ?_) AllReadyH.nil
      (try simp only [List.getElem_toArray, List.getElem_cons_zero, List.getElem_cons_succ])
      go_simp
      go_at_call 36
      refine (firesIn_e (gs.ext (by exact extT)) ei et ec es ok oa ob oc od).mono ?_
      rintro e w9 ⟨he, hx9⟩
      have X9 : Ext w8 w9 := Ext.trans (by exact extT) hx9
      rw [HFT.out] at he; subst he
      clear hx9
      refine hKz.out _ _ (by (try dsimp only); exact extT) (fun hHeld => ?_)
      clear hKz Kz
      (try simp only [List.getElem_toArray, List.getElem_cons_zero, List.getElem_cons_succ, Act.put, List.setIfInBounds_toArray, List.set_cons_zero, List.set_cons_succ])
      refine wpAnyH_take (i := 3) (v := ?_) rfl (by kernel_rfl) (by kernel_rfl) (by kernel_rfl) (fun _ _ _ h => h) (Or.inl ⟨by rfl, ?_⟩) (by assumption) ?_
      rotate_left
      focus (intro w hSw; (try dsimp only at hSw); go_simp <;> with_reducible rfl)
      (try simp only [List.getElem_toArray, List.getElem_cons_zero, List.getElem_cons_succ, Act.put, List.setIfInBounds_toArray, List.set_cons_zero, List.set_cons_succ])
      refine wpAnyH_take (i := 4) (v := ?_) rfl (by kernel_rfl) (by kernel_rfl) (by kernel_rfl) (fun _ _ _ h => h) (Or.inl ⟨by rfl, ?_⟩) (by assumption) ?_
      rotate_left
      focus (intro w hSw; (try dsimp only at hSw); go_simp <;> with_reducible rfl)
      (try simp only [List.getElem_toArray, List.getElem_cons_zero, List.getElem_cons_succ, Act.put, List.setIfInBounds_toArray, List.set_cons_zero, List.set_cons_succ])
      refine wpAnyH_take (i := 5) (v := ?_) rfl (by kernel_rfl) (by kernel_rfl) (by kernel_rfl) (fun _ _ _ h => h) (Or.inl ⟨by rfl, ?_⟩) (by assumption) ?_
      rotate_left
      focus (intro w hSw; (try dsimp only at hSw); have hq := (KV8.ext hSw).cell; have hq2 := (KV8.ext hSw).lt; go_simp <;> with_reducible rfl)
      (try simp only [List.getElem_toArray, List.getElem_cons_zero, List.getElem_cons_succ, Act.put, List.setIfInBounds_toArray, List.set_cons_zero, List.set_cons_succ])
      refine wpAnyH_take (i := 6) (v := ?_) rfl (by kernel_rfl) (by kernel_rfl) (by kernel_rfl) (fun _ _ _ h => h) (Or.inl ⟨by rfl, ?_⟩) (by assumption) ?_
      rotate_left
      focus (intro w hSw; (try dsimp only at hSw); go_simp <;> with_reducible rfl)
      (try simp only [List.getElem_toArray, List.getElem_cons_zero, List.getElem_cons_succ, Act.put, List.setIfInBounds_toArray, List.set_cons_zero, List.set_cons_succ])
      refine wpAnyH_take (i := 7) (v := ?_) rfl (by kernel_rfl) (by kernel_rfl) (by kernel_rfl) (fun _ _ _ h => h) (Or.inl ⟨by rfl, ?_⟩) (by assumption) ?_
      rotate_left
      focus (intro w hSw; (try dsimp only at hSw); have hq := (KS8.ext hSw).cell; have hq2 := (KS8.ext hSw).lt; go_simp <;> with_reducible rfl)
      (try simp only [List.getElem_toArray, List.getElem_cons_zero, List.getElem_cons_succ, Act.put, List.setIfInBounds_toArray, List.set_cons_zero, List.set_cons_succ])
      refine wpAnyH_take (i := 8) (v := ?_) rfl (by kernel_rfl) (by kernel_rfl) (by kernel_rfl) (fun _ _ _ h => h) (Or.inl ⟨by rfl, ?_⟩) (by assumption) ?_
      rotate_left
      focus (intro w hSw; (try dsimp only at hSw); go_simp <;> with_reducible rfl)
      (try simp only [List.getElem_toArray, List.getElem_cons_zero, List.getElem_cons_succ, Act.put, List.setIfInBounds_toArray, List.set_cons_zero, List.set_cons_succ])
      refine wpAnyH_take (i := 9) (v := ?_) rfl (by kernel_rfl) (by kernel_rfl) (by kernel_rfl) (fun _ _ _ h => h) (Or.inl ⟨by rfl, ?_⟩) (by assumption) ?_
      rotate_left
      focus (intro w hSw; (try dsimp only at hSw); go_simp <;> with_reducible rfl)
      (try simp only [List.getElem_toArray, List.getElem_cons_zero, List.getElem_cons_succ, Act.put, List.setIfInBounds_toArray, List.set_cons_zero, List.set_cons_succ])
      refine wpAnyH_take (i := 10) (v := ?_) rfl (by kernel_rfl) (by kernel_rfl) (by kernel_rfl) (fun _ _ _ h => h) (Or.inl ⟨by rfl, ?_⟩) (by assumption) ?_
      rotate_left
      focus (intro w hSw; (try dsimp only at hSw); go_simp <;> with_reducible rfl)
      (try simp only [List.getElem_toArray, List.getElem_cons_zero, List.getElem_cons_succ, Act.put, List.setIfInBounds_toArray, List.set_cons_zero, List.set_cons_succ])
      refine wpAnyH_take (i := 11) (v := ?_) rfl (by kernel_rfl) (by kernel_rfl) (by kernel_rfl) (fun _ _ _ h => h) (Or.inl ⟨by rfl, ?_⟩) (by assumption) ?_
      rotate_left
      focus (intro w hSw; (try dsimp only at hSw); go_simp <;> with_reducible rfl)
      (try simp only [List.getElem_toArray, List.getElem_cons_zero, List.getElem_cons_succ, Act.put, List.setIfInBounds_toArray, List.set_cons_zero, List.set_cons_succ])
      refine wpAnyH_take (i := 12) (v := ?_) rfl (by kernel_rfl) (by kernel_rfl) (by kernel_rfl) (fun _ _ _ h => h) (Or.inl ⟨by rfl, ?_⟩) (by assumption) ?_
      rotate_left
      focus (intro w hSw; (try dsimp only at hSw); have hq := (KV8.ext hSw).cell; have hq2 := (KV8.ext hSw).lt; go_simp <;> with_reducible rfl)
      (try simp only [List.getElem_toArray, List.getElem_cons_zero, List.getElem_cons_succ, Act.put, List.setIfInBounds_toArray, List.set_cons_zero, List.set_cons_succ])
      refine wpAnyH_take (i := 15) (v := ?_) rfl (by kernel_rfl) (by kernel_rfl) (by kernel_rfl) (fun _ _ _ h => h) (Or.inl ⟨by rfl, ?_⟩) (by assumption) ?_
      rotate_left
      focus (intro w hSw; (try dsimp only at hSw); go_simp <;> with_reducible rfl)
      (try simp only [List.getElem_toArray, List.getElem_cons_zero, List.getElem_cons_succ, Act.put, List.setIfInBounds_toArray, List.set_cons_zero, List.set_cons_succ])
      refine wpAnyH_take (i := 16) (v := ?_) rfl (by kernel_rfl) (by kernel_rfl) (by kernel_rfl) (fun _ _ _ h => h) (Or.inl ⟨by rfl, ?_⟩) (by assumption) ?_
      rotate_left
      focus (intro w hSw; (try dsimp only at hSw); have hq := (KS8.ext hSw).cell; have hq2 := (KS8.ext hSw).lt; go_simp <;> with_reducible rfl)
      (try simp only [List.getElem_toArray, List.getElem_cons_zero, List.getElem_cons_succ, Act.put, List.setIfInBounds_toArray, List.set_cons_zero, List.set_cons_succ])
      refine wpAnyH_ready (rs := [13]) (by kernel_rfl) (by simp) ?_
      refine AllReadyH.cons rfl (fun Kz hKz => ?_) AllReadyH.nil
      (try simp only [List.getElem_toArray, List.getElem_cons_zero, List.getElem_cons_succ])
      go_simp
      go_at_call 37
      refine (openJobs_c (gv4.ext (by exact extT))).mono ?_
      rintro e w10 ⟨_, rfl, hx10, Oja⟩
      have X10 : Ext w8 w10 := Ext.trans (by exact extT) hx10
      obtain ⟨taa, tna, tca, rfl⟩ := Oja.shape
      have hla : tna = (openD D.Jobs).length := by obtain ⟨_, m, _, e, hl, _⟩ := Oja.ints; injection e with _ e _; simp only [List.length_map, length_dues] at hl; omega
      clear hx10
      subst hla; clear Oja
      refine hKz.out _ _ (by (try dsimp only); exact extT) (fun hHeld => ?_)
      clear hKz Kz
      (try simp only [List.getElem_toArray, List.getElem_cons_zero, List.getElem_cons_succ, Act.put, List.setIfInBounds_toArray, List.set_cons_zero, List.set_cons_succ])
      refine wpAnyH_take (i := 14) (v := ?_) rfl (by kernel_rfl) (by kernel_rfl) (by kernel_rfl) (fun _ _ _ h => h) (Or.inl ⟨by rfl, ?_⟩) (by assumption) ?_
      rotate_left
      focus (intro w hSw; (try dsimp only at hSw); go_simp <;> with_reducible rfl)
      (try simp only [List.getElem_toArray, List.getElem_cons_zero, List.getElem_cons_succ, Act.put, List.setIfInBounds_toArray, List.set_cons_zero, List.set_cons_succ])
      refine wpAnyH_ready (rs := [17]) (by kernel_rfl) (by simp) ?_
      refine AllReadyH.cons rfl (fun Kz hKz => ?_) AllReadyH.nil
      (try simp only [List.getElem_toArray, List.getElem_cons_zero, List.getElem_cons_succ])
      go_simp
      go_at_call 37
      refine (openJobs_c (gs4.ext (by exact extT))).mono ?_
      rintro e w11 ⟨_, rfl, hx11, Ojb⟩
      have X11 : Ext w8 w11 := Ext.trans (by exact extT) hx11
      obtain ⟨tab, tnb, tcb, rfl⟩ := Ojb.shape
      have hlb : tnb = (openD s.Jobs).length := by obtain ⟨_, m, _, e, hl, _⟩ := Ojb.ints; injection e with _ e _; simp only [List.length_map, length_dues] at hl; omega
      clear hx11
      subst hlb; clear Ojb
      have hw9 : IntKind.i64.wrap (((openD s.Jobs).length : Int) - 1) = ((openD D.Jobs).length : Int) := by have := HN.out; rw [IntKind.wrap_i64] <;> omega
      refine hKz.out _ _ (by (try dsimp only); exact extT) (fun hHeld => ?_)
      clear hKz Kz
      (try simp only [List.getElem_toArray, List.getElem_cons_zero, List.getElem_cons_succ, Act.put, List.setIfInBounds_toArray, List.set_cons_zero, List.set_cons_succ])
      refine wpAnyH_take (i := 18) (v := ?_) rfl (by kernel_rfl) (by kernel_rfl) (by kernel_rfl) (fun _ _ _ h => h) (Or.inl ⟨by rfl, ?_⟩) (by assumption) ?_
      rotate_left
      focus (intro w hSw; (try dsimp only at hSw); go_simp <;> with_reducible rfl)
      (try simp only [List.getElem_toArray, List.getElem_cons_zero, List.getElem_cons_succ, Act.put, List.setIfInBounds_toArray, List.set_cons_zero, List.set_cons_succ])
      refine wpAnyH_take (i := 19) (v := ?_) rfl (by kernel_rfl) (by kernel_rfl) (by kernel_rfl) (fun _ _ _ h => h) (Or.inl ⟨by rfl, ?_⟩) (by assumption) ?_
      rotate_left
      focus (intro w hSw; (try dsimp only at hSw); go_simp <;> with_reducible rfl)
      (try simp only [List.getElem_toArray, List.getElem_cons_zero, List.getElem_cons_succ, Act.put, List.setIfInBounds_toArray, List.set_cons_zero, List.set_cons_succ])
      refine wpAnyH_take (i := 20) (v := ?_) rfl (by kernel_rfl) (by kernel_rfl) (by kernel_rfl) (fun _ _ _ h => h) (Or.inl ⟨by rfl, ?_⟩) (by assumption) ?_
      rotate_left
      focus (intro w hSw; (try dsimp only at hSw); go_simp <;> with_reducible rfl)
      (try simp only [List.getElem_toArray, List.getElem_cons_zero, List.getElem_cons_succ, Act.put, List.setIfInBounds_toArray, List.set_cons_zero, List.set_cons_succ])
      refine wpAnyH_take (i := 21) (v := ?_) rfl (by kernel_rfl) (by kernel_rfl) (by kernel_rfl) (fun _ _ _ h => h) (Or.inl ⟨by rfl, ?_⟩) (by assumption) ?_
      rotate_left
      focus (intro w hSw; (try dsimp only at hSw); go_simp <;> with_reducible rfl)
      (try simp only [List.getElem_toArray, List.getElem_cons_zero, List.getElem_cons_succ, Act.put, List.setIfInBounds_toArray, List.set_cons_zero, List.set_cons_succ])
      refine wpAnyH_ready (rs := [22]) (by kernel_rfl) (by simp) ?_
      refine AllReadyH.cons rfl (fun Kz hKz => ?_) AllReadyH.nil
      (try simp only [List.getElem_toArray, List.getElem_cons_zero, List.getElem_cons_succ])
      go_simp
      refine hKz.out _ _ (by (try dsimp only); exact extT) (fun hHeld => ?_)
      clear hKz Kz
      (try simp only [List.getElem_toArray, List.getElem_cons_zero, List.getElem_cons_succ, Act.put, List.setIfInBounds_toArray, List.set_cons_zero, List.set_cons_succ])
      refine wpAnyH_done (by kernel_rfl) ?_ _
      have X119 := X11
      have hz11 := X11.size
      have KS11 : Blk w11 w1.heap.size 46 #[.int .i64 s.Index, .int .i64 s.Time, .slice a2 n2 k2, .slice a3 n3 k3, .int .i64 s.Lease.Holder, .int .i64 s.Lease.Epoch, .int .i64 s.Lease.Until] := Blk.ext KS8 X11
      have KT11 : Blk w11 (w1.heap.size + 1) 80 #[.int .i64 ei, .int .i64 et, .int .i64 ec, .int .i64 es, .int .i64 ok, .int .i64 oa, .int .i64 ob, .int .i64 oc, .int .i64 od] := Blk.ext KT8 X11
      have KU11 : Blk w11 w2.heap.size 46 #[.int .i64 D.Index, .int .i64 D.Time, .slice a2u n2u k2u, .slice a3u n3u k3u, .int .i64 D.Lease.Holder, .int .i64 D.Lease.Epoch, .int .i64 D.Lease.Until] := Blk.ext KU8 X11
      have KV11 : Blk w11 w3.heap.size 46 #[.int .i64 D.Index, .int .i64 D.Time, .slice a2v n2v k2v, .slice a3v n3v k3v, .int .i64 D.Lease.Holder, .int .i64 D.Lease.Epoch, .int .i64 D.Lease.Until] := Blk.ext KV8 X11
      have gs := gs.ext X11
      have gu := gu.ext X11
      have gv := gv.ext X11
      have gs3 := gs3.ext X11
      have gs4 := gs4.ext X11
      have gv3 := gv3.ext X11
      have gv4 := gv4.ext X11
      have E11 : Ext w w11 := E8.trans X11
      clear CS8 FS8 LS8 CT8 FT8 LT8 CU8 FU8 LU8 CV8 FV8 LV8
      have CS11 := KS11.cell; have FS11 := KS11.frozen; have LS11 := KS11.lt
      have CT11 := KT11.cell; have FT11 := KT11.frozen; have LT11 := KT11.lt
      have CU11 := KU11.cell; have FU11 := KU11.frozen; have LU11 := KU11.lt
      have CV11 := KV11.cell; have FV11 := KV11.frozen; have LV11 := KV11.lt
      go_wp2_with fail
      go_ret
      exact ⟨by first | rfl | (simp [*]; done), by exact extT⟩
    · skip
      obtain ⟨rfl, hp, hj, hl⟩ := hsay
      obtain rfl := hr1.out hp; obtain rfl := hr2.out hj
      clear hp hj
      have hl : D.Lease.Holder = ec := hl
      go_wp2_with fail
      go_ret
      exact ⟨by first | rfl | (simp [*]; done), by exact extT⟩

end Go.Proofs.YtohoemphmghblaaGreat

-- The statement FnEffects: for every input the law returns true.
namespace Go.Proofs.YtohoemphmghblaaGreat.fnEffects
open Go.ChangeShapes Go.WideShapes Go.ChangeAt Go.RowKit Go.G8
open Go.Proofs.YtohoemphmghblaaGreat.facts (b2)

set_option maxRecDepth 100000 in
theorem lifted (os : Os) (started : os.Started) (H : Type) (enc : TypeId × Value → H) :
    ReturnsInHanded {} Tryz.checked os 6 .any (Rows.fnEffectsSpec.pre6 enc Tryz.prog Tryz.f6 Rows.fnEffectsRow.domain false) (Rows.fnEffectsSpec.post enc Tryz.prog Tryz.f6 false true false false) := by
  refine returnsInHanded_of_change (C := Tryz.checked) own started (by kernel_rfl) Tryz.func6
    (ChangeSpec.witness6 (enc := enc) (C := Tryz.checked) false ⟨#[], #[.slice none 0 0], []⟩ 8 (by kernel_rfl) (by kernel_rfl) (by kernel_rfl) (by kernel_rfl)) ?_
  intro W base args ds gs before hval0 hW _ _
  have hval : ∀ (j : Nat) t v, Tryz.f6.params[j]? = some t → args[j]? = some v → Value.okWide Tryz.prog W .any base t v := hval0
  have hW' := hW
  obtain ⟨p, q, hA0, hV, rfl, hfz, hnd⟩ := hW
  have hA : DataW.TrodAll enc Tryz.prog W 0 (fun _ => true) true Tryz.f6.params.toList args.toList ds p := hA0
  rw [Tryz.params6] at hA hval
  obtain ⟨v0, vs0, d0, ds0, p0, q0, hargs, rfl, rfl, h0, r0⟩ := trodAll_cons hA
  obtain ⟨rfl, rfl, rfl⟩ := trodAll_nil r0
  obtain rfl : args = #[v0] := by cases args; simp_all
  obtain ⟨rfl, rfl⟩ := trodVars_none hV
  have k0 := h0
  have lt0 : ∀ x ∈ p0, x.block < W.heap.size := by obtain ⟨m, hm⟩ := k0; exact DataW.trod_lt m _ _ _ hm
  obtain ⟨sa0, sn0, sc0, rfl⟩ := okWide_slice Tryz.underlying60 (hval 0 60 v0 rfl rfl)
  obtain ⟨m0, hm0⟩ := h0
  obtain ⟨s0, e0, g0⟩ := rd_Bytes hm0
  simp [Value.cells] at e0
  subst e0
  clear hA0 hval0
  refine (law_Effects W _ g0).mono fun e W' ⟨he, bel0⟩ => ?_
  have bel : Below W.heap.size W W' := bel0
  subst he
  exact ⟨_, rfl, _, _, _, [], _, [], hW', trodAll_mk1 (shut_bool Tryz.underlying4 _), (trodAll_cons_mk (Below.trod laidOut (by kernel_rfl) (of_decide_eq_true (by kernel_rfl)) k0 bel lt0) trodAll_mk0), rfl, bel.frame _, fun h => by cases h⟩

theorem k0 : (Rows.fnEffectsRow.wf (OpenSpec.ofChange Rows.fnEffectsSpec)) = true := by kernel_rfl
theorem k1 : (laidOutB Tryz.checked.prog) = true := facts.k1
theorem k2 : (mapsRowed Tryz.checked.prog) = true := facts.k2
theorem k3 : (Tryz.f6.params.all (Tryz.checked.prog.readableRec ·)) = true := by kernel_rfl
theorem k4 : (namedTie Tryz.checked.prog Rows.fnEffectsRow.named Rows.fnEffectsSpec.vars) = true := by kernel_rfl
theorem k5 : ((Rows.fnEffectsRow.stops == [])) = true := by kernel_rfl
theorem k6 : ((Tryz.checked.prog.stops == [])) = true := facts.k6
theorem k7 : ((Rows.fnEffectsRow.knobs == [])) = true := by kernel_rfl
theorem k8 : ((Tryz.checked.prog.stopKnobs == [])) = true := facts.k8
theorem k9 : ((Rows.fnEffectsRow.inPlace == Tryz.checked.prog.inPlace 6)) = true := by kernel_rfl
theorem k10 : ((Rows.fnEffectsRow.unfollowed == Tryz.checked.prog.unfollowed 6)) = true := by kernel_rfl
theorem k11 : ((Rows.fnEffectsRow.recurses == Tryz.checked.prog.recurses 6)) = true := by kernel_rfl
theorem k12 : ((Rows.fnEffectsRow.named == Tryz.checked.prog.varsNamed 6)) = true := by kernel_rfl
theorem k13 : ((Rows.fnEffectsRow.maps == (Tryz.f6.params.toList ++ Rows.fnEffectsSpec.plain.varTypes Tryz.checked.prog).any (Tryz.checked.prog.mapsRec ·))) = true := by kernel_rfl
theorem k14 : ((Rows.fnEffectsRow.ifaces == (Tryz.f6.params.toList ++ Rows.fnEffectsSpec.plain.varTypes Tryz.checked.prog).any (Tryz.checked.prog.ifacesRec ·))) = true := by kernel_rfl
theorem k15 : ((Rows.fnEffectsRow.mapsOut == Tryz.checked.prog.mapsAmong Tryz.f6.resultTypes.toList)) = true := by kernel_rfl
theorem k16 : ((Rows.fnEffectsRow.loops == (Tryz.f6.params.toList ++ Rows.fnEffectsSpec.plain.varTypes Tryz.checked.prog).any (Tryz.checked.prog.loopsFrom ·))) = true := by kernel_rfl
theorem k17 : ((Rows.fnEffectsRow.wideKeys == (Tryz.f6.params.toList ++ Rows.fnEffectsSpec.plain.varTypes Tryz.checked.prog ++ Tryz.f6.resultTypes.toList).any (Tryz.checked.prog.wideKeysFrom ·))) = true := by kernel_rfl
theorem k18 : (Rows.fnEffectsSpec.vars.all (Tryz.checked.prog.varReadable ·)) = true := by kernel_rfl
theorem k19 : (Tryz.f6.resultTypes.all (fun t => Tryz.checked.prog.readableRec t && decide (t < Tryz.checked.prog.types.size))) = true := by kernel_rfl
theorem k20 : ((Rows.fnEffectsRow.ifacesOut == Tryz.f6.resultTypes.toList.any (Tryz.checked.prog.ifacesRec ·))) = true := by kernel_rfl
theorem k21 : ((Rows.fnEffectsRow.loopsOut == Tryz.f6.resultTypes.toList.any (Tryz.checked.prog.loopsFrom ·))) = true := by kernel_rfl
theorem k22 : ((Rows.fnEffectsRow.plainKeys == Tryz.checked.prog.plainKeys)) = true := facts.k22
theorem k23 : (Rows.fnEffectsRow.shortTexts.isNone) = true := by kernel_rfl
theorem k24 : (Tryz.checked.prog.stopsHeard) = true := facts.k24
theorem k25 : (Tryz.checked.prog.mayEnter) = true := facts.k25
theorem k26 : ((Rows.fnEffectsRow.lifted == Tryz.checked.prog.liftsFinal)) = true := facts.k26
theorem k27 : ((Tryz.checked.prog.make == some Rows.fnEffectsRow.make)) = true := facts.k27
theorem k28 : ((Rows.fnEffectsRow.kinds == (if Rows.fnEffectsRow.domain.isEmpty then [] else Tryz.f6.params.toList.map fun t => match Tryz.checked.prog.underlying t with | some (.int k) => some k | _ => none))) = true := by kernel_rfl
theorem k29 : ((Rows.fnEffectsRow.pinned == Rows.fnEffectsRow.pinnedBy)) = true := by kernel_rfl
theorem k30 : ((Rows.fnEffectsRow.veiled == (Tryz.f6.params.toList ++ Rows.fnEffectsSpec.plain.varTypes Tryz.checked.prog ++ Tryz.f6.resultTypes.toList).any (Tryz.checked.prog.veiledRec ·))) = true := by kernel_rfl
theorem k31 : (Rows.fnEffectsRow.veiledFits Tryz.checked.prog Tryz.f6.params.toList (Tryz.f6.params.toList ++ Rows.fnEffectsSpec.plain.varTypes Tryz.checked.prog ++ Tryz.f6.resultTypes.toList)) = true := by kernel_rfl
set_option maxRecDepth 100000 in
theorem closed : joinedFacts Tryz.checked.prog 6 Tryz.f6 Rows.fnEffectsSpec Rows.fnEffectsRow = true := by
  unfold joinedFacts
  exact (b2 (b2 (b2 (b2 (b2 (b2 (b2 (b2 (b2 (b2 (b2 (b2 (b2 (b2 (b2 (b2 (b2 (b2 (b2 (b2 (b2 (b2 (b2 (b2 (b2 (b2 (b2 (b2 (b2 (b2 (b2 k0 k1) k2) k3) k4) k5) k6) k7) k8) k9) k10) k11) k12) k13) k14) k15) k16) k17) k18) k19) k20) k21) k22) k23) k24) k25) k26) k27) k28) k29) k30) k31)

theorem proved : Rows.FnEffectsSaid :=
  OpenClaim.holds_of_wide 6 Tryz.f6 rfl rfl rfl rfl rfl rfl rfl ⟨rfl, rfl, rfl, rfl, rfl⟩ rfl rfl rfl rfl rfl (by as_aux_lemma => kernel_rfl) Tryz.func6 closed
    (of_decide_eq_true (by as_aux_lemma => kernel_rfl)) (by as_aux_lemma => (unfold Func.isWrapper; rw [if_neg (of_decide_eq_false (by kernel_rfl))]; exact ⟨rfl, rfl⟩))
    (fun os started H enc _ => lifted os started H enc)
end Go.Proofs.YtohoemphmghblaaGreat.fnEffects
