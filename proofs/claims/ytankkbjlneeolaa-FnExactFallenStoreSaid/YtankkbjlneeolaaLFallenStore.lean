/- The statement's walk: FnExactFallenStore. -/
import Derived.Test.YtankkbjlneeolaaQ10
set_option linter.unusedSimpArgs false
set_option linter.unusedVariables false
namespace Go.Proofs.Ytankkbjlneeolaa
open Go.RowKit Go.G8

set_option maxHeartbeats 4000000 in
set_option maxRecDepth 100000 in
theorem law_FallenStore (w : World) (s0_0 : Value) (l0_0 : List (List Int)) (s0_1 : Value) (l0_1 : List DWrite) (c0_2 : Int) (c0_3 : Int) (s0_4 : Value) (l0_4 : List DPair) (s0_5 : Value) (l0_5 : List DJob) (c0_6 : Int) (c0_7 : Int) (c0_8 : Int) (c0_9 : Int) (c0_10 : Int) (c0_11 : Int) (s1_0 : Value) (l1_0 : List Int) (h0_0 : Nest 0 w s0_0 (nestInt64S l0_0)) (h0_1 : Nest 1 w s0_1 (nestWrite l0_1)) (h0_4 : Ints 2 w s0_4 (flPair l0_4)) (h0_5 : Ints 5 w s0_5 (flJob l0_5)) (h1_0 : Ints 1 w s1_0 l1_0) : Calls Try.prog 3 #[.agg #[s0_0, s0_1, .int .i64 c0_2, .int .i64 c0_3, s0_4, s0_5, .int .i64 c0_6, .int .i64 c0_7, .int .i64 c0_8, .int .i64 c0_9, .int .i64 c0_10, .int .i64 c0_11], s1_0] w (RetV w (.bool true)) := by
  obtain ⟨a0_0, n0_0, k0_0, rfl⟩ := h0_0.shape
  obtain ⟨a0_1, n0_1, k0_1, rfl⟩ := h0_1.shape
  obtain ⟨a0_4, n0_4, k0_4, rfl⟩ := h0_4.shape
  obtain ⟨a0_5, n0_5, k0_5, rfl⟩ := h0_5.shape
  obtain ⟨a1_0, n1_0, rfl, hn1, hm1, _⟩ := h1_0.one
  unfold maxLen at hm1
  have h0 : RdStore w (.agg #[.slice a0_0 n0_0 k0_0, .slice a0_1 n0_1 k0_1, .int .i64 c0_2, .int .i64 c0_3, .slice a0_4 n0_4 k0_4, .slice a0_5 n0_5 k0_5, .int .i64 c0_6, .int .i64 c0_7, .int .i64 c0_8, .int .i64 c0_9, .int .i64 c0_10, .int .i64 c0_11]) ⟨⟨l0_0, l0_1⟩, ⟨c0_2, c0_3, l0_4, l0_5, ⟨c0_6, c0_7, c0_8⟩⟩, c0_9, c0_10, c0_11⟩ := ⟨_, _, _, _, rfl, h0_0, h0_1, h0_4, h0_5⟩
  obtain ⟨S, hS⟩ : ∃ S : DStore, S = ⟨⟨l0_0, l0_1⟩, ⟨c0_2, c0_3, l0_4, l0_5, ⟨c0_6, c0_7, c0_8⟩⟩, c0_9, c0_10, c0_11⟩ := ⟨_, rfl⟩
  rw [← hS] at h0
  have nb := nFallenStore l1_0 S
  by_cases hqf : l1_0.length ≤ 1048576
  rotate_left
  · go_enter Try.func3, Try.ntmps3
    go_wp2; go_ret; exact ⟨rfl, by repeat' (first | (with_reducible exact Ext.refl _) | (with_reducible assumption) | (with_reducible refine Ext.drewN ?_ _) | (with_reducible refine Ext.drew ?_) | (with_reducible refine Ext.alloc ?_ _) | (with_reducible refine Ext.setCell ?_ ?_ _) | (with_reducible refine Ext.setRow ?_ ?_ _) | (with_reducible exact Nat.le_refl _) | (with_reducible refine Ext.trans ?_ (by assumption)) | omega)⟩
  have qf : l1_0.length ≤ 1048576 := hqf
  clear hqf
  go_enter Try.func3, Try.ntmps3
  go_wp2_with fail
  refine (szStore_c _ _ _ _ _ _ _ _ _ _ (length_flPair _) _ _ _ (length_flJob _) _ _ _ _ _ _ _ (h0_0.ext (by repeat' (first | (with_reducible exact Ext.refl _) | (with_reducible assumption) | (with_reducible refine Ext.drewN ?_ _) | (with_reducible refine Ext.drew ?_) | (with_reducible refine Ext.alloc ?_ _) | (with_reducible refine Ext.setCell ?_ ?_ _) | (with_reducible refine Ext.setRow ?_ ?_ _) | (with_reducible exact Nat.le_refl _) | (with_reducible refine Ext.trans ?_ (by assumption)) | omega))) (h0_1.ext (by repeat' (first | (with_reducible exact Ext.refl _) | (with_reducible assumption) | (with_reducible refine Ext.drewN ?_ _) | (with_reducible refine Ext.drew ?_) | (with_reducible refine Ext.alloc ?_ _) | (with_reducible refine Ext.setCell ?_ ?_ _) | (with_reducible refine Ext.setRow ?_ ?_ _) | (with_reducible exact Nat.le_refl _) | (with_reducible refine Ext.trans ?_ (by assumption)) | omega))) (h0_4.ext (by repeat' (first | (with_reducible exact Ext.refl _) | (with_reducible assumption) | (with_reducible refine Ext.drewN ?_ _) | (with_reducible refine Ext.drew ?_) | (with_reducible refine Ext.alloc ?_ _) | (with_reducible refine Ext.setCell ?_ ?_ _) | (with_reducible refine Ext.setRow ?_ ?_ _) | (with_reducible exact Nat.le_refl _) | (with_reducible refine Ext.trans ?_ (by assumption)) | omega))) (h0_5.ext (by repeat' (first | (with_reducible exact Ext.refl _) | (with_reducible assumption) | (with_reducible refine Ext.drewN ?_ _) | (with_reducible refine Ext.drew ?_) | (with_reducible refine Ext.alloc ?_ _) | (with_reducible refine Ext.setCell ?_ ?_ _) | (with_reducible refine Ext.setRow ?_ ?_ _) | (with_reducible exact Nat.le_refl _) | (with_reducible refine Ext.trans ?_ (by assumption)) | omega))) (by omega) (by omega)).mono ?_
  rintro e w1 ⟨v1, rfl, hx1, hv1⟩
  have X1 : Ext w w1 := by repeat' (first | (with_reducible exact Ext.refl _) | (with_reducible assumption) | (with_reducible refine Ext.drewN ?_ _) | (with_reducible refine Ext.drew ?_) | (with_reducible refine Ext.alloc ?_ _) | (with_reducible refine Ext.setCell ?_ ?_ _) | (with_reducible refine Ext.setRow ?_ ?_ _) | (with_reducible exact Nat.le_refl _) | (with_reducible refine Ext.trans ?_ (by assumption)) | omega)
  have Ba : Blk w1 w.heap.size 33 #[.slice a0_0 n0_0 k0_0, .slice a0_1 n0_1 k0_1, .int .i64 c0_2, .int .i64 c0_3, .slice a0_4 n0_4 k0_4, .slice a0_5 n0_5 k0_5, .int .i64 c0_6, .int .i64 c0_7, .int .i64 c0_8, .int .i64 c0_9, .int .i64 c0_10, .int .i64 c0_11] := (Blk.new w 33 #[.slice a0_0 n0_0 k0_0, .slice a0_1 n0_1 k0_1, .int .i64 c0_2, .int .i64 c0_3, .slice a0_4 n0_4 k0_4, .slice a0_5 n0_5 k0_5, .int .i64 c0_6, .int .i64 c0_7, .int .i64 c0_8, .int .i64 c0_9, .int .i64 c0_10, .int .i64 c0_11]).ext hx1
  have MBa := Ba.lt
  have Z1 := X1.size
  have E1 : Ext w w1 := X1
  clear hx1
  have CBa := Ba.cell; have LBa := Ba.lt
  rcases hv1 with ⟨rfl, qz⟩ | ⟨rfl, qz⟩
  · go_wp2; go_ret; exact ⟨rfl, by repeat' (first | (with_reducible exact Ext.refl _) | (with_reducible assumption) | (with_reducible refine Ext.drewN ?_ _) | (with_reducible refine Ext.drew ?_) | (with_reducible refine Ext.alloc ?_ _) | (with_reducible refine Ext.setCell ?_ ?_ _) | (with_reducible refine Ext.setRow ?_ ?_ _) | (with_reducible exact Nat.le_refl _) | (with_reducible refine Ext.trans ?_ (by assumption)) | omega)⟩
  have q0 : rowsSize (nestInt64S S.Disk.Kept) ≤ 1048576 := by rw [hS]; simp only []; omega
  have q1 : rowsSize (nestWrite S.Disk.Wait) ≤ 1048576 := by rw [hS]; simp only []; omega
  have q4 : S.State.Pairs.length ≤ 1048576 := by rw [hS]; simp only []; omega
  have q5 : S.State.Jobs.length ≤ 1048576 := by rw [hS]; simp only []; omega
  have nx := nStore_le S q4 q5 q0 q1
  clear hS h0_0 h0_1 h0_4 h0_5
  go_wp2_with fail
  refine (to_Store (h0.ext (by repeat' (first | (with_reducible exact Ext.refl _) | (with_reducible assumption) | (with_reducible refine Ext.drewN ?_ _) | (with_reducible refine Ext.drew ?_) | (with_reducible refine Ext.alloc ?_ _) | (with_reducible refine Ext.setCell ?_ ?_ _) | (with_reducible refine Ext.setRow ?_ ?_ _) | (with_reducible exact Nat.le_refl _) | (with_reducible refine Ext.trans ?_ (by assumption)) | omega))) q0 q1 q4 q5).mono ?_
  rintro e w2 ⟨_, rfl, hx2, Fu, gu⟩
  obtain ⟨au0, nu0, ku0, au1, nu1, ku1, au4, nu4, ku4, au5, nu5, ku5, rfl⟩ := gu.rd.shape
  have lu := gu.low; (try simp only [World.size_alloc] at lu)
  have X2 : Ext w1 w2 := by repeat' (first | (with_reducible exact Ext.refl _) | (with_reducible assumption) | (with_reducible refine Ext.drewN ?_ _) | (with_reducible refine Ext.drew ?_) | (with_reducible refine Ext.alloc ?_ _) | (with_reducible refine Ext.setCell ?_ ?_ _) | (with_reducible refine Ext.setRow ?_ ?_ _) | (with_reducible exact Nat.le_refl _) | (with_reducible refine Ext.trans ?_ (by assumption)) | omega)
  have Z2 := X2.size
  have E2 : Ext w w2 := E1.trans X2
  have Ba := Ba.ext X2
  clear hx2
  clear CBa LBa
  have CBa := Ba.cell; have LBa := Ba.lt
  go_wp2_with fail
  refine (toInt64S_c _ _ _ _ (Nat.mul_one _).symm (h1_0.ext (by repeat' (first | (with_reducible exact Ext.refl _) | (with_reducible assumption) | (with_reducible refine Ext.drewN ?_ _) | (with_reducible refine Ext.drew ?_) | (with_reducible refine Ext.alloc ?_ _) | (with_reducible refine Ext.setCell ?_ ?_ _) | (with_reducible refine Ext.setRow ?_ ?_ _) | (with_reducible exact Nat.le_refl _) | (with_reducible refine Ext.trans ?_ (by assumption)) | omega))) qf).mono ?_
  rintro e w3 ⟨_, rfl, hx3, gfu⟩
  obtain ⟨afu, nfu, kfu, rfl⟩ := gfu.shape
  have lfu := gfu.foot; (try simp only [World.size_alloc] at lfu)
  have X3 : Ext w2 w3 := by repeat' (first | (with_reducible exact Ext.refl _) | (with_reducible assumption) | (with_reducible refine Ext.drewN ?_ _) | (with_reducible refine Ext.drew ?_) | (with_reducible refine Ext.alloc ?_ _) | (with_reducible refine Ext.setCell ?_ ?_ _) | (with_reducible refine Ext.setRow ?_ ?_ _) | (with_reducible exact Nat.le_refl _) | (with_reducible refine Ext.trans ?_ (by assumption)) | omega)
  have Z3 := X3.size
  have E3 : Ext w w3 := E2.trans X3
  have Ba := Ba.ext X3
  have gu := gu.ext X3
  clear hx3
  clear CBa LBa
  have CBa := Ba.cell; have LBa := Ba.lt
  go_wp2_with fail
  refine (sFallenStore_k ((gu.rd).ext (by repeat' (first | (with_reducible exact Ext.refl _) | (with_reducible assumption) | (with_reducible refine Ext.drewN ?_ _) | (with_reducible refine Ext.drew ?_) | (with_reducible refine Ext.alloc ?_ _) | (with_reducible refine Ext.setCell ?_ ?_ _) | (with_reducible refine Ext.setRow ?_ ?_ _) | (with_reducible exact Nat.le_refl _) | (with_reducible refine Ext.trans ?_ (by assumption)) | omega))) (OwnI.ints (gfu.ext (by repeat' (first | (with_reducible exact Ext.refl _) | (with_reducible assumption) | (with_reducible refine Ext.drewN ?_ _) | (with_reducible refine Ext.drew ?_) | (with_reducible refine Ext.alloc ?_ _) | (with_reducible refine Ext.setCell ?_ ?_ _) | (with_reducible refine Ext.setRow ?_ ?_ _) | (with_reducible exact Nat.le_refl _) | (with_reducible refine Ext.trans ?_ (by assumption)) | omega))))).mono ?_
  rintro e w4 ⟨_, rfl, hx4, Fw, gw⟩
  obtain ⟨aw0, nw0, kw0, aw1, nw1, kw1, aw4, nw4, kw4, aw5, nw5, kw5, rfl⟩ := gw.rd.shape
  have lw := gw.low; (try simp only [World.size_alloc] at lw)
  have X4 : Ext w3 w4 := by repeat' (first | (with_reducible exact Ext.refl _) | (with_reducible assumption) | (with_reducible refine Ext.drewN ?_ _) | (with_reducible refine Ext.drew ?_) | (with_reducible refine Ext.alloc ?_ _) | (with_reducible refine Ext.setCell ?_ ?_ _) | (with_reducible refine Ext.setRow ?_ ?_ _) | (with_reducible exact Nat.le_refl _) | (with_reducible refine Ext.trans ?_ (by assumption)) | omega)
  have Z4 := X4.size
  have E4 : Ext w w4 := E3.trans X4
  have Ba := Ba.ext X4
  have gu := gu.ext X4
  have gfu := gfu.ext X4
  clear hx4
  clear CBa LBa
  have CBa := Ba.cell; have LBa := Ba.lt
  go_wp2_with fail
  refine (to_Store (h0.ext (by repeat' (first | (with_reducible exact Ext.refl _) | (with_reducible assumption) | (with_reducible refine Ext.drewN ?_ _) | (with_reducible refine Ext.drew ?_) | (with_reducible refine Ext.alloc ?_ _) | (with_reducible refine Ext.setCell ?_ ?_ _) | (with_reducible refine Ext.setRow ?_ ?_ _) | (with_reducible exact Nat.le_refl _) | (with_reducible refine Ext.trans ?_ (by assumption)) | omega))) q0 q1 q4 q5).mono ?_
  rintro e w5 ⟨_, rfl, hx5, Fx, gx⟩
  obtain ⟨ax0, nx0, kx0, ax1, nx1, kx1, ax4, nx4, kx4, ax5, nx5, kx5, rfl⟩ := gx.rd.shape
  have lx := gx.low; (try simp only [World.size_alloc] at lx)
  have X5 : Ext w4 w5 := by repeat' (first | (with_reducible exact Ext.refl _) | (with_reducible assumption) | (with_reducible refine Ext.drewN ?_ _) | (with_reducible refine Ext.drew ?_) | (with_reducible refine Ext.alloc ?_ _) | (with_reducible refine Ext.setCell ?_ ?_ _) | (with_reducible refine Ext.setRow ?_ ?_ _) | (with_reducible exact Nat.le_refl _) | (with_reducible refine Ext.trans ?_ (by assumption)) | omega)
  have Bw : Blk w5 w4.heap.size 45 #[.slice aw0 nw0 kw0, .slice aw1 nw1 kw1, .int .i64 (fallenStore l1_0 S).State.Index, .int .i64 (fallenStore l1_0 S).State.Time, .slice aw4 nw4 kw4, .slice aw5 nw5 kw5, .int .i64 (fallenStore l1_0 S).State.Lease.Holder, .int .i64 (fallenStore l1_0 S).State.Lease.Epoch, .int .i64 (fallenStore l1_0 S).State.Lease.Until, .int .i64 (fallenStore l1_0 S).Num, .int .i64 (fallenStore l1_0 S).Last, .int .i64 (fallenStore l1_0 S).Busy] := (Blk.new w4 45 #[.slice aw0 nw0 kw0, .slice aw1 nw1 kw1, .int .i64 (fallenStore l1_0 S).State.Index, .int .i64 (fallenStore l1_0 S).State.Time, .slice aw4 nw4 kw4, .slice aw5 nw5 kw5, .int .i64 (fallenStore l1_0 S).State.Lease.Holder, .int .i64 (fallenStore l1_0 S).State.Lease.Epoch, .int .i64 (fallenStore l1_0 S).State.Lease.Until, .int .i64 (fallenStore l1_0 S).Num, .int .i64 (fallenStore l1_0 S).Last, .int .i64 (fallenStore l1_0 S).Busy]).ext hx5
  have MBw := Bw.lt
  have Z5 := X5.size
  have E5 : Ext w w5 := E4.trans X5
  have Ba := Ba.ext X5
  have gw := gw.ext X5
  clear hx5
  clear CBa LBa
  have CBa := Ba.cell; have LBa := Ba.lt
  have CBw := Bw.cell; have LBw := Bw.lt
  go_wp2_with fail
  refine (toInt64S_c _ _ _ _ (Nat.mul_one _).symm (h1_0.ext (by repeat' (first | (with_reducible exact Ext.refl _) | (with_reducible assumption) | (with_reducible refine Ext.drewN ?_ _) | (with_reducible refine Ext.drew ?_) | (with_reducible refine Ext.alloc ?_ _) | (with_reducible refine Ext.setCell ?_ ?_ _) | (with_reducible refine Ext.setRow ?_ ?_ _) | (with_reducible exact Nat.le_refl _) | (with_reducible refine Ext.trans ?_ (by assumption)) | omega))) qf).mono ?_
  rintro e w6 ⟨_, rfl, hx6, gfx⟩
  obtain ⟨afx, nfx, kfx, rfl⟩ := gfx.shape
  have lfx := gfx.foot; (try simp only [World.size_alloc] at lfx)
  have X6 : Ext w5 w6 := by repeat' (first | (with_reducible exact Ext.refl _) | (with_reducible assumption) | (with_reducible refine Ext.drewN ?_ _) | (with_reducible refine Ext.drew ?_) | (with_reducible refine Ext.alloc ?_ _) | (with_reducible refine Ext.setCell ?_ ?_ _) | (with_reducible refine Ext.setRow ?_ ?_ _) | (with_reducible exact Nat.le_refl _) | (with_reducible refine Ext.trans ?_ (by assumption)) | omega)
  have Bx : Blk w6 w5.heap.size 45 #[.slice ax0 nx0 kx0, .slice ax1 nx1 kx1, .int .i64 S.State.Index, .int .i64 S.State.Time, .slice ax4 nx4 kx4, .slice ax5 nx5 kx5, .int .i64 S.State.Lease.Holder, .int .i64 S.State.Lease.Epoch, .int .i64 S.State.Lease.Until, .int .i64 S.Num, .int .i64 S.Last, .int .i64 S.Busy] := (Blk.new w5 45 #[.slice ax0 nx0 kx0, .slice ax1 nx1 kx1, .int .i64 S.State.Index, .int .i64 S.State.Time, .slice ax4 nx4 kx4, .slice ax5 nx5 kx5, .int .i64 S.State.Lease.Holder, .int .i64 S.State.Lease.Epoch, .int .i64 S.State.Lease.Until, .int .i64 S.Num, .int .i64 S.Last, .int .i64 S.Busy]).ext hx6
  have MBx := Bx.lt
  have Z6 := X6.size
  have E6 : Ext w w6 := E5.trans X6
  have Ba := Ba.ext X6
  have gw := gw.ext X6
  have Bw := Bw.ext X6
  have gx := gx.ext X6
  clear hx6
  clear CBa LBa CBw LBw
  have CBa := Ba.cell; have LBa := Ba.lt
  have CBw := Bw.cell; have LBw := Bw.lt
  have CBx := Bx.cell; have LBx := Bx.lt
  go_wp2_with fail
  refine (fallenStore_k ((gx.rd).ext (by repeat' (first | (with_reducible exact Ext.refl _) | (with_reducible assumption) | (with_reducible refine Ext.drewN ?_ _) | (with_reducible refine Ext.drew ?_) | (with_reducible refine Ext.alloc ?_ _) | (with_reducible refine Ext.setCell ?_ ?_ _) | (with_reducible refine Ext.setRow ?_ ?_ _) | (with_reducible exact Nat.le_refl _) | (with_reducible refine Ext.trans ?_ (by assumption)) | omega))) (OwnI.ints (gfx.ext (by repeat' (first | (with_reducible exact Ext.refl _) | (with_reducible assumption) | (with_reducible refine Ext.drewN ?_ _) | (with_reducible refine Ext.drew ?_) | (with_reducible refine Ext.alloc ?_ _) | (with_reducible refine Ext.setCell ?_ ?_ _) | (with_reducible refine Ext.setRow ?_ ?_ _) | (with_reducible exact Nat.le_refl _) | (with_reducible refine Ext.trans ?_ (by assumption)) | omega))))).mono ?_
  rintro e w7 ⟨_, rfl, hx7, Fg, gg⟩
  obtain ⟨ag0, ng0, kg0, ag1, ng1, kg1, ag4, ng4, kg4, ag5, ng5, kg5, rfl⟩ := gg.rd.shape
  have lg := gg.low; (try simp only [World.size_alloc] at lg)
  have X7 : Ext w6 w7 := by repeat' (first | (with_reducible exact Ext.refl _) | (with_reducible assumption) | (with_reducible refine Ext.drewN ?_ _) | (with_reducible refine Ext.drew ?_) | (with_reducible refine Ext.alloc ?_ _) | (with_reducible refine Ext.setCell ?_ ?_ _) | (with_reducible refine Ext.setRow ?_ ?_ _) | (with_reducible exact Nat.le_refl _) | (with_reducible refine Ext.trans ?_ (by assumption)) | omega)
  have Z7 := X7.size
  have E7 : Ext w w7 := E6.trans X7
  have Ba := Ba.ext X7
  have gw := gw.ext X7
  have Bw := Bw.ext X7
  have gx := gx.ext X7
  have Bx := Bx.ext X7
  have gfx := gfx.ext X7
  clear hx7
  clear CBa LBa CBw LBw CBx LBx
  have CBa := Ba.cell; have LBa := Ba.lt
  have CBw := Bw.cell; have LBw := Bw.lt
  have CBx := Bx.cell; have LBx := Bx.lt
  as_aux_lemma =>
    go_wp2_with fail
    refine (eq_Store ((gg.rd).ext (by repeat' (first | (with_reducible exact Ext.refl _) | (with_reducible assumption) | (with_reducible refine Ext.drewN ?_ _) | (with_reducible refine Ext.drew ?_) | (with_reducible refine Ext.alloc ?_ _) | (with_reducible refine Ext.setCell ?_ ?_ _) | (with_reducible refine Ext.setRow ?_ ?_ _) | (with_reducible exact Nat.le_refl _) | (with_reducible refine Ext.trans ?_ (by assumption)) | omega))) ((gw.rd).ext (by repeat' (first | (with_reducible exact Ext.refl _) | (with_reducible assumption) | (with_reducible refine Ext.drewN ?_ _) | (with_reducible refine Ext.drew ?_) | (with_reducible refine Ext.alloc ?_ _) | (with_reducible refine Ext.setCell ?_ ?_ _) | (with_reducible refine Ext.setRow ?_ ?_ _) | (with_reducible exact Nat.le_refl _) | (with_reducible refine Ext.trans ?_ (by assumption)) | omega)))).mono ?_
    rintro e w8 ⟨rfl, hx8⟩
    have X8 : Ext w7 w8 := by repeat' (first | (with_reducible exact Ext.refl _) | (with_reducible assumption) | (with_reducible refine Ext.drewN ?_ _) | (with_reducible refine Ext.drew ?_) | (with_reducible refine Ext.alloc ?_ _) | (with_reducible refine Ext.setCell ?_ ?_ _) | (with_reducible refine Ext.setRow ?_ ?_ _) | (with_reducible exact Nat.le_refl _) | (with_reducible refine Ext.trans ?_ (by assumption)) | omega)
    have Bg : Blk w8 w7.heap.size 45 #[.slice ag0 ng0 kg0, .slice ag1 ng1 kg1, .int .i64 (fallenStore l1_0 S).State.Index, .int .i64 (fallenStore l1_0 S).State.Time, .slice ag4 ng4 kg4, .slice ag5 ng5 kg5, .int .i64 (fallenStore l1_0 S).State.Lease.Holder, .int .i64 (fallenStore l1_0 S).State.Lease.Epoch, .int .i64 (fallenStore l1_0 S).State.Lease.Until, .int .i64 (fallenStore l1_0 S).Num, .int .i64 (fallenStore l1_0 S).Last, .int .i64 (fallenStore l1_0 S).Busy] := (Blk.new w7 45 #[.slice ag0 ng0 kg0, .slice ag1 ng1 kg1, .int .i64 (fallenStore l1_0 S).State.Index, .int .i64 (fallenStore l1_0 S).State.Time, .slice ag4 ng4 kg4, .slice ag5 ng5 kg5, .int .i64 (fallenStore l1_0 S).State.Lease.Holder, .int .i64 (fallenStore l1_0 S).State.Lease.Epoch, .int .i64 (fallenStore l1_0 S).State.Lease.Until, .int .i64 (fallenStore l1_0 S).Num, .int .i64 (fallenStore l1_0 S).Last, .int .i64 (fallenStore l1_0 S).Busy]).ext hx8
    have MBg := Bg.lt
    have Z8 := X8.size
    have E8 : Ext w w8 := E7.trans X8
    have Ba := Ba.ext X8
    have gw := gw.ext X8
    have Bw := Bw.ext X8
    have gx := gx.ext X8
    have Bx := Bx.ext X8
    have gfx := gfx.ext X8
    have gg := gg.ext X8
    clear hx8
    clear CBa LBa CBw LBw CBx LBx
    have CBa := Ba.cell; have LBa := Ba.lt
    have CBw := Bw.cell; have LBw := Bw.lt
    have CBx := Bx.cell; have LBx := Bx.lt
    have CBg := Bg.cell; have LBg := Bg.lt
    go_wp2_with fail
    have ya0 : ∀ w', Ext w8 w' → w'.cell? ⟨_, 0, none⟩ = some (.slice a0_0 n0_0 k0_0) := fun w' hw => (Ba.ext hw).cell 0
    have ya1 : ∀ w', Ext w8 w' → w'.cell? ⟨_, 1, none⟩ = some (.slice a0_1 n0_1 k0_1) := fun w' hw => (Ba.ext hw).cell 1
    have ya2 : ∀ w', Ext w8 w' → w'.cell? ⟨_, 2, none⟩ = some (.int .i64 c0_2) := fun w' hw => (Ba.ext hw).cell 2
    have ya3 : ∀ w', Ext w8 w' → w'.cell? ⟨_, 3, none⟩ = some (.int .i64 c0_3) := fun w' hw => (Ba.ext hw).cell 3
    have ya4 : ∀ w', Ext w8 w' → w'.cell? ⟨_, 4, none⟩ = some (.slice a0_4 n0_4 k0_4) := fun w' hw => (Ba.ext hw).cell 4
    have ya5 : ∀ w', Ext w8 w' → w'.cell? ⟨_, 5, none⟩ = some (.slice a0_5 n0_5 k0_5) := fun w' hw => (Ba.ext hw).cell 5
    have ya6 : ∀ w', Ext w8 w' → w'.cell? ⟨_, 6, none⟩ = some (.int .i64 c0_6) := fun w' hw => (Ba.ext hw).cell 6
    have ya7 : ∀ w', Ext w8 w' → w'.cell? ⟨_, 7, none⟩ = some (.int .i64 c0_7) := fun w' hw => (Ba.ext hw).cell 7
    have ya8 : ∀ w', Ext w8 w' → w'.cell? ⟨_, 8, none⟩ = some (.int .i64 c0_8) := fun w' hw => (Ba.ext hw).cell 8
    have ya9 : ∀ w', Ext w8 w' → w'.cell? ⟨_, 9, none⟩ = some (.int .i64 c0_9) := fun w' hw => (Ba.ext hw).cell 9
    have ya10 : ∀ w', Ext w8 w' → w'.cell? ⟨_, 10, none⟩ = some (.int .i64 c0_10) := fun w' hw => (Ba.ext hw).cell 10
    have ya11 : ∀ w', Ext w8 w' → w'.cell? ⟨_, 11, none⟩ = some (.int .i64 c0_11) := fun w' hw => (Ba.ext hw).cell 11
    have yb0 : ∀ w', Ext w8 w' → w'.cell? ⟨_, 0, none⟩ = some (.slice ax0 nx0 kx0) := fun w' hw => (Bx.ext hw).cell 0
    have yb1 : ∀ w', Ext w8 w' → w'.cell? ⟨_, 1, none⟩ = some (.slice ax1 nx1 kx1) := fun w' hw => (Bx.ext hw).cell 1
    have yb2 : ∀ w', Ext w8 w' → w'.cell? ⟨_, 2, none⟩ = some (.int .i64 S.State.Index) := fun w' hw => (Bx.ext hw).cell 2
    have yb3 : ∀ w', Ext w8 w' → w'.cell? ⟨_, 3, none⟩ = some (.int .i64 S.State.Time) := fun w' hw => (Bx.ext hw).cell 3
    have yb4 : ∀ w', Ext w8 w' → w'.cell? ⟨_, 4, none⟩ = some (.slice ax4 nx4 kx4) := fun w' hw => (Bx.ext hw).cell 4
    have yb5 : ∀ w', Ext w8 w' → w'.cell? ⟨_, 5, none⟩ = some (.slice ax5 nx5 kx5) := fun w' hw => (Bx.ext hw).cell 5
    have yb6 : ∀ w', Ext w8 w' → w'.cell? ⟨_, 6, none⟩ = some (.int .i64 S.State.Lease.Holder) := fun w' hw => (Bx.ext hw).cell 6
    have yb7 : ∀ w', Ext w8 w' → w'.cell? ⟨_, 7, none⟩ = some (.int .i64 S.State.Lease.Epoch) := fun w' hw => (Bx.ext hw).cell 7
    have yb8 : ∀ w', Ext w8 w' → w'.cell? ⟨_, 8, none⟩ = some (.int .i64 S.State.Lease.Until) := fun w' hw => (Bx.ext hw).cell 8
    have yb9 : ∀ w', Ext w8 w' → w'.cell? ⟨_, 9, none⟩ = some (.int .i64 S.Num) := fun w' hw => (Bx.ext hw).cell 9
    have yb10 : ∀ w', Ext w8 w' → w'.cell? ⟨_, 10, none⟩ = some (.int .i64 S.Last) := fun w' hw => (Bx.ext hw).cell 10
    have yb11 : ∀ w', Ext w8 w' → w'.cell? ⟨_, 11, none⟩ = some (.int .i64 S.Busy) := fun w' hw => (Bx.ext hw).cell 11
    clear CBa LBa CBw LBw CBx LBx CBg LBg
    go_region_held3 (fun w' => Ext w8 w') (first | exact Ext.drew (Ext.refl _) | exact Ext.trans (by assumption) hx9 | exact Ext.trans (by assumption) hx10) (first | (go_at_call 8; refine (to_Store (h0.ext (Ext.trans E8 (by assumption))) q0 q1 q4 q5).mono ?_; rintro e w9 ⟨_, rfl, hx9, Fz, gz⟩; obtain ⟨az0, nz0, kz0, az1, nz1, kz1, az4, nz4, kz4, az5, nz5, kz5, rfl⟩ := gz.rd.shape) | (go_at_call 11; refine (eq_Store ((gx.rd).ext (by assumption)) gz.rd).mono ?_; rintro e w10 ⟨rfl, hx10⟩))
    have X10 : Ext w8 w10 := by assumption
    clear ya0 yb0 ya1 yb1 ya2 yb2 ya3 yb3 ya4 yb4 ya5 yb5 ya6 yb6 ya7 yb7 ya8 yb8 ya9 yb9 ya10 yb10 ya11 yb11 hx10
    have Z10 := X10.size; have E10 : Ext w w10 := E8.trans X10
    have Ba := Ba.ext X10
    have gw := gw.ext X10
    have Bw := Bw.ext X10
    have gx := gx.ext X10
    have Bx := Bx.ext X10
    have gfx := gfx.ext X10
    have gg := gg.ext X10
    have Bg := Bg.ext X10
    have CBa := Ba.cell; have LBa := Ba.lt
    have CBw := Bw.cell; have LBw := Bw.lt
    have CBx := Bx.cell; have LBx := Bx.lt
    have CBg := Bg.cell; have LBg := Bg.lt
    go_wp2_with fail
    refine (toInt64S_c _ _ _ _ (Nat.mul_one _).symm (h1_0.ext (by repeat' (first | (with_reducible exact Ext.refl _) | (with_reducible assumption) | (with_reducible refine Ext.drewN ?_ _) | (with_reducible refine Ext.drew ?_) | (with_reducible refine Ext.alloc ?_ _) | (with_reducible refine Ext.setCell ?_ ?_ _) | (with_reducible refine Ext.setRow ?_ ?_ _) | (with_reducible exact Nat.le_refl _) | (with_reducible refine Ext.trans ?_ (by assumption)) | omega))) qf).mono ?_
    rintro e w11 ⟨_, rfl, hx11, gfz⟩
    obtain ⟨afz, nfz, kfz, rfl⟩ := gfz.shape
    have lfz := gfz.foot; (try simp only [World.size_alloc] at lfz)
    have X11 : Ext w10 w11 := by repeat' (first | (with_reducible exact Ext.refl _) | (with_reducible assumption) | (with_reducible refine Ext.drewN ?_ _) | (with_reducible refine Ext.drew ?_) | (with_reducible refine Ext.alloc ?_ _) | (with_reducible refine Ext.setCell ?_ ?_ _) | (with_reducible refine Ext.setRow ?_ ?_ _) | (with_reducible exact Nat.le_refl _) | (with_reducible refine Ext.trans ?_ (by assumption)) | omega)
    have Z11 := X11.size
    have E11 : Ext w w11 := E10.trans X11
    have Ba := Ba.ext X11
    have gw := gw.ext X11
    have Bw := Bw.ext X11
    have gx := gx.ext X11
    have Bx := Bx.ext X11
    have gfx := gfx.ext X11
    have gg := gg.ext X11
    have Bg := Bg.ext X11
    clear hx11
    clear CBa LBa CBw LBw CBx LBx CBg LBg
    have CBa := Ba.cell; have LBa := Ba.lt
    have CBw := Bw.cell; have LBw := Bw.lt
    have CBx := Bx.cell; have LBx := Bx.lt
    have CBg := Bg.cell; have LBg := Bg.lt
    go_wp2_with fail
    refine (eqInt64S_c _ _ _ l1_0 (OwnI.ints (gfx.ext (by repeat' (first | (with_reducible exact Ext.refl _) | (with_reducible assumption) | (with_reducible refine Ext.drewN ?_ _) | (with_reducible refine Ext.drew ?_) | (with_reducible refine Ext.alloc ?_ _) | (with_reducible refine Ext.setCell ?_ ?_ _) | (with_reducible refine Ext.setRow ?_ ?_ _) | (with_reducible exact Nat.le_refl _) | (with_reducible refine Ext.trans ?_ (by assumption)) | omega)))) (OwnI.ints (gfz.ext (by repeat' (first | (with_reducible exact Ext.refl _) | (with_reducible assumption) | (with_reducible refine Ext.drewN ?_ _) | (with_reducible refine Ext.drew ?_) | (with_reducible refine Ext.alloc ?_ _) | (with_reducible refine Ext.setCell ?_ ?_ _) | (with_reducible refine Ext.setRow ?_ ?_ _) | (with_reducible exact Nat.le_refl _) | (with_reducible refine Ext.trans ?_ (by assumption)) | omega))))).mono ?_
    rintro e w12 ⟨rfl, hx12⟩
    have X12 : Ext w11 w12 := by repeat' (first | (with_reducible exact Ext.refl _) | (with_reducible assumption) | (with_reducible refine Ext.drewN ?_ _) | (with_reducible refine Ext.drew ?_) | (with_reducible refine Ext.alloc ?_ _) | (with_reducible refine Ext.setCell ?_ ?_ _) | (with_reducible refine Ext.setRow ?_ ?_ _) | (with_reducible exact Nat.le_refl _) | (with_reducible refine Ext.trans ?_ (by assumption)) | omega)
    have Z12 := X12.size
    have E12 : Ext w w12 := E11.trans X12
    have Ba := Ba.ext X12
    have gw := gw.ext X12
    have Bw := Bw.ext X12
    have gx := gx.ext X12
    have Bx := Bx.ext X12
    have gfx := gfx.ext X12
    have gg := gg.ext X12
    have Bg := Bg.ext X12
    clear hx12
    clear CBa LBa CBw LBw CBx LBx CBg LBg
    have CBa := Ba.cell; have LBa := Ba.lt
    have CBw := Bw.cell; have LBw := Bw.lt
    have CBx := Bx.cell; have LBx := Bx.lt
    have CBg := Bg.cell; have LBg := Bg.lt
    as_aux_lemma =>
      go_wp2_with fail
      refine (mark_Store (gx.ext (by repeat' (first | (with_reducible exact Ext.refl _) | (with_reducible assumption) | (with_reducible refine Ext.drewN ?_ _) | (with_reducible refine Ext.drew ?_) | (with_reducible refine Ext.alloc ?_ _) | (with_reducible refine Ext.setCell ?_ ?_ _) | (with_reducible refine Ext.setRow ?_ ?_ _) | (with_reducible exact Nat.le_refl _) | (with_reducible refine Ext.trans ?_ (by assumption)) | omega))) (by omega) (by have := nx; omega)).mono ?_
      rintro e w13 ⟨rfl, hx13, gxm⟩
      have X13 : Upd w12 w13 Fx := (Ext.upd (by repeat' (first | (with_reducible exact Ext.refl _) | (with_reducible assumption) | (with_reducible refine Ext.drewN ?_ _) | (with_reducible refine Ext.drew ?_) | (with_reducible refine Ext.alloc ?_ _) | (with_reducible refine Ext.setCell ?_ ?_ _) | (with_reducible refine Ext.setRow ?_ ?_ _) | (with_reducible exact Nat.le_refl _) | (with_reducible refine Ext.trans ?_ (by assumption)) | omega)) _).trans hx13
      have Z13 := X13.size
      have E13 : Ext w w13 := E12.upd_below X13 (fun k hk => by have := lx k hk; omega)
      have Ba := Ba.upd X13 (fun hk => by have := lx _ hk; omega)
      have gw := gw.upd X13 (fun k hk hk' => by have := lx k hk'; have := lw k hk; omega)
      have Bw := Bw.upd X13 (fun hk => by have := lx _ hk; omega)
      have Bx := Bx.upd X13 (fun hk => by have := lx _ hk; omega)
      have gfx := OwnI.upd' gfx X13 (fun k hk hk' => by have := lx k hk'; have := lfx k hk; omega)
      have gg := gg.upd X13 (fun k hk hk' => by have := lx k hk'; have := lg k hk; omega)
      have Bg := Bg.upd X13 (fun hk => by have := lx _ hk; omega)
      obtain ⟨K, hK⟩ : ∃ z : Int, z = 1 + ((nStore (S) : Nat) : Int) := ⟨_, rfl⟩
      rw [← hK]
      have pK : 0 ≤ K := by omega
      have rK : K ≤ 1000000000 := by have := nx; omega
      have HK := Lib.hid hK
      clear hK
      have dK : decide (K < 0) = false := by simp; omega
      clear hx13
      clear CBa LBa CBw LBw CBx LBx CBg LBg
      have CBa := Ba.cell; have LBa := Ba.lt
      have CBw := Bw.cell; have LBw := Bw.lt
      have CBx := Bx.cell; have LBx := Bx.lt
      have CBg := Bg.cell; have LBg := Bg.lt
      go_wp2_with fail
      refine (markInt64S_c _ _ _ _ _ rfl K (gfx.ext (by repeat' (first | (with_reducible exact Ext.refl _) | (with_reducible assumption) | (with_reducible refine Ext.drewN ?_ _) | (with_reducible refine Ext.drew ?_) | (with_reducible refine Ext.alloc ?_ _) | (with_reducible refine Ext.setCell ?_ ?_ _) | (with_reducible refine Ext.setRow ?_ ?_ _) | (with_reducible exact Nat.le_refl _) | (with_reducible refine Ext.trans ?_ (by assumption)) | omega))) (by omega) (by omega)).mono ?_
      rintro e w14 ⟨rfl, hx14, -⟩
      have X14 : Upd w13 w14 (feet [.slice afx nfx kfx]) := (Ext.upd (by repeat' (first | (with_reducible exact Ext.refl _) | (with_reducible assumption) | (with_reducible refine Ext.drewN ?_ _) | (with_reducible refine Ext.drew ?_) | (with_reducible refine Ext.alloc ?_ _) | (with_reducible refine Ext.setCell ?_ ?_ _) | (with_reducible refine Ext.setRow ?_ ?_ _) | (with_reducible exact Nat.le_refl _) | (with_reducible refine Ext.trans ?_ (by assumption)) | omega)) _).trans hx14
      have Z14 := X14.size
      have E14 : Ext w w14 := E13.upd_below X14 (fun k hk => by have := lfx k hk; omega)
      have Ba := Ba.upd X14 (fun hk => by have := lfx _ hk; omega)
      have gw := gw.upd X14 (fun k hk hk' => by have := lfx k hk'; have := lw k hk; omega)
      have Bw := Bw.upd X14 (fun hk => by have := lfx _ hk; omega)
      have Bx := Bx.upd X14 (fun hk => by have := lfx _ hk; omega)
      have gg := gg.upd X14 (fun k hk hk' => by have := lfx k hk'; have := lg k hk; omega)
      have Bg := Bg.upd X14 (fun hk => by have := lfx _ hk; omega)
      obtain ⟨K2, hK2⟩ : ∃ z : Int, z = K + ((l1_0.length : Nat) : Int) := ⟨_, rfl⟩
      rw [← hK2]
      have pK2 : 0 ≤ K2 := by omega
      clear hK2
      have dK2 : decide (K2 < 0) = false := by simp; omega
      clear hx14
      clear CBa LBa CBw LBw CBx LBx CBg LBg
      have CBa := Ba.cell; have LBa := Ba.lt
      have CBw := Bw.cell; have LBw := Bw.lt
      have CBx := Bx.cell; have LBx := Bx.lt
      have CBg := Bg.cell; have LBg := Bg.lt
      go_wp2_with fail
      refine (eq_Store ((gg.rd).ext (by repeat' (first | (with_reducible exact Ext.refl _) | (with_reducible assumption) | (with_reducible refine Ext.drewN ?_ _) | (with_reducible refine Ext.drew ?_) | (with_reducible refine Ext.alloc ?_ _) | (with_reducible refine Ext.setCell ?_ ?_ _) | (with_reducible refine Ext.setRow ?_ ?_ _) | (with_reducible exact Nat.le_refl _) | (with_reducible refine Ext.trans ?_ (by assumption)) | omega))) ((gw.rd).ext (by repeat' (first | (with_reducible exact Ext.refl _) | (with_reducible assumption) | (with_reducible refine Ext.drewN ?_ _) | (with_reducible refine Ext.drew ?_) | (with_reducible refine Ext.alloc ?_ _) | (with_reducible refine Ext.setCell ?_ ?_ _) | (with_reducible refine Ext.setRow ?_ ?_ _) | (with_reducible exact Nat.le_refl _) | (with_reducible refine Ext.trans ?_ (by assumption)) | omega)))).mono ?_
      rintro e w15 ⟨rfl, hx15⟩
      have X15 : Ext w14 w15 := by repeat' (first | (with_reducible exact Ext.refl _) | (with_reducible assumption) | (with_reducible refine Ext.drewN ?_ _) | (with_reducible refine Ext.drew ?_) | (with_reducible refine Ext.alloc ?_ _) | (with_reducible refine Ext.setCell ?_ ?_ _) | (with_reducible refine Ext.setRow ?_ ?_ _) | (with_reducible exact Nat.le_refl _) | (with_reducible refine Ext.trans ?_ (by assumption)) | omega)
      have Z15 := X15.size
      have E15 : Ext w w15 := E14.trans X15
      have Ba := Ba.ext X15
      have gw := gw.ext X15
      have Bw := Bw.ext X15
      have Bx := Bx.ext X15
      have gg := gg.ext X15
      have Bg := Bg.ext X15
      clear hx15
      clear CBa LBa CBw LBw CBx LBx CBg LBg
      have CBa := Ba.cell; have LBa := Ba.lt
      have CBw := Bw.cell; have LBw := Bw.lt
      have CBx := Bx.cell; have LBx := Bx.lt
      have CBg := Bg.cell; have LBg := Bg.lt
      go_wp2_with fail
      refine (mark_Store (gg.ext (by repeat' (first | (with_reducible exact Ext.refl _) | (with_reducible assumption) | (with_reducible refine Ext.drewN ?_ _) | (with_reducible refine Ext.drew ?_) | (with_reducible refine Ext.alloc ?_ _) | (with_reducible refine Ext.setCell ?_ ?_ _) | (with_reducible refine Ext.setRow ?_ ?_ _) | (with_reducible exact Nat.le_refl _) | (with_reducible refine Ext.trans ?_ (by assumption)) | omega))) (by omega) (by have := nb; omega)).mono ?_
      rintro e w16 ⟨rfl, hx16, gm⟩
      have X16 : Upd w15 w16 Fg := (Ext.upd (by repeat' (first | (with_reducible exact Ext.refl _) | (with_reducible assumption) | (with_reducible refine Ext.drewN ?_ _) | (with_reducible refine Ext.drew ?_) | (with_reducible refine Ext.alloc ?_ _) | (with_reducible refine Ext.setCell ?_ ?_ _) | (with_reducible refine Ext.setRow ?_ ?_ _) | (with_reducible exact Nat.le_refl _) | (with_reducible refine Ext.trans ?_ (by assumption)) | omega)) _).trans hx16
      have Z16 := X16.size
      have E16 : Ext w w16 := E15.upd_below X16 (fun k hk => by have := lg k hk; omega)
      have Ba := Ba.upd X16 (fun hk => by have := lg _ hk; omega)
      have gw := gw.upd X16 (fun k hk hk' => by have := lg k hk'; have := lw k hk; omega)
      have Bw := Bw.upd X16 (fun hk => by have := lg _ hk; omega)
      have Bx := Bx.upd X16 (fun hk => by have := lg _ hk; omega)
      have Bg := Bg.upd X16 (fun hk => by have := lg _ hk; omega)
      obtain ⟨N, hN⟩ : ∃ z : Int, z = 1 + ((nStore (fallenStore l1_0 S) : Nat) : Int) := ⟨_, rfl⟩
      rw [← hN]
      have pN : 0 ≤ N := by omega
      have rN : N ≤ 1000000000 := by have := nb; omega
      have HN := Lib.hid hN
      clear hN
      have dN : decide (N < 0) = false := by simp; omega
      clear hx16
      clear CBa LBa CBw LBw CBx LBx CBg LBg
      have CBa := Ba.cell; have LBa := Ba.lt
      have CBw := Bw.cell; have LBw := Bw.lt
      have CBx := Bx.cell; have LBx := Bx.lt
      have CBg := Bg.cell; have LBg := Bg.lt
      go_wp2_with fail
      refine (held_Store (gm.ext (by repeat' (first | (with_reducible exact Ext.refl _) | (with_reducible assumption) | (with_reducible refine Ext.drewN ?_ _) | (with_reducible refine Ext.drew ?_) | (with_reducible refine Ext.alloc ?_ _) | (with_reducible refine Ext.setCell ?_ ?_ _) | (with_reducible refine Ext.setRow ?_ ?_ _) | (with_reducible exact Nat.le_refl _) | (with_reducible refine Ext.trans ?_ (by assumption)) | omega))) (by omega) (by have := nb; omega)).mono ?_
      rintro e w17 ⟨rfl, hx17⟩
      rw [← HN.out]
      have X17 : Ext w16 w17 := by repeat' (first | (with_reducible exact Ext.refl _) | (with_reducible assumption) | (with_reducible refine Ext.drewN ?_ _) | (with_reducible refine Ext.drew ?_) | (with_reducible refine Ext.alloc ?_ _) | (with_reducible refine Ext.setCell ?_ ?_ _) | (with_reducible refine Ext.setRow ?_ ?_ _) | (with_reducible exact Nat.le_refl _) | (with_reducible refine Ext.trans ?_ (by assumption)) | omega)
      have Z17 := X17.size
      have E17 : Ext w w17 := E16.trans X17
      have Ba := Ba.ext X17
      have gw := gw.ext X17
      have Bw := Bw.ext X17
      have Bx := Bx.ext X17
      have Bg := Bg.ext X17
      have gm := gm.ext X17
      clear hx17
      clear CBa LBa CBw LBw CBx LBx CBg LBg
      have CBa := Ba.cell; have LBa := Ba.lt
      have CBw := Bw.cell; have LBw := Bw.lt
      have CBx := Bx.cell; have LBx := Bx.lt
      have CBg := Bg.cell; have LBg := Bg.lt
      go_wp2_with fail
      refine (to_Store (h0.ext (by repeat' (first | (with_reducible exact Ext.refl _) | (with_reducible assumption) | (with_reducible refine Ext.drewN ?_ _) | (with_reducible refine Ext.drew ?_) | (with_reducible refine Ext.alloc ?_ _) | (with_reducible refine Ext.setCell ?_ ?_ _) | (with_reducible refine Ext.setRow ?_ ?_ _) | (with_reducible exact Nat.le_refl _) | (with_reducible refine Ext.trans ?_ (by assumption)) | omega))) q0 q1 q4 q5).mono ?_
      rintro e w18 ⟨_, rfl, hx18, Fy, gy⟩
      obtain ⟨ay0, ny0, ky0, ay1, ny1, ky1, ay4, ny4, ky4, ay5, ny5, ky5, rfl⟩ := gy.rd.shape
      have ly := gy.low; (try simp only [World.size_alloc] at ly)
      have X18 : Ext w17 w18 := by repeat' (first | (with_reducible exact Ext.refl _) | (with_reducible assumption) | (with_reducible refine Ext.drewN ?_ _) | (with_reducible refine Ext.drew ?_) | (with_reducible refine Ext.alloc ?_ _) | (with_reducible refine Ext.setCell ?_ ?_ _) | (with_reducible refine Ext.setRow ?_ ?_ _) | (with_reducible exact Nat.le_refl _) | (with_reducible refine Ext.trans ?_ (by assumption)) | omega)
      have Z18 := X18.size
      have E18 : Ext w w18 := E17.trans X18
      have Ba := Ba.ext X18
      have gw := gw.ext X18
      have Bw := Bw.ext X18
      have Bx := Bx.ext X18
      have Bg := Bg.ext X18
      have gm := gm.ext X18
      clear hx18
      clear CBa LBa CBw LBw CBx LBx CBg LBg
      have CBa := Ba.cell; have LBa := Ba.lt
      have CBw := Bw.cell; have LBw := Bw.lt
      have CBx := Bx.cell; have LBx := Bx.lt
      have CBg := Bg.cell; have LBg := Bg.lt
      go_wp2_with fail
      refine (toInt64S_c _ _ _ _ (Nat.mul_one _).symm (h1_0.ext (by repeat' (first | (with_reducible exact Ext.refl _) | (with_reducible assumption) | (with_reducible refine Ext.drewN ?_ _) | (with_reducible refine Ext.drew ?_) | (with_reducible refine Ext.alloc ?_ _) | (with_reducible refine Ext.setCell ?_ ?_ _) | (with_reducible refine Ext.setRow ?_ ?_ _) | (with_reducible exact Nat.le_refl _) | (with_reducible refine Ext.trans ?_ (by assumption)) | omega))) qf).mono ?_
      rintro e w19 ⟨_, rfl, hx19, gfy⟩
      obtain ⟨afy, nfy, kfy, rfl⟩ := gfy.shape
      have lfy := gfy.foot; (try simp only [World.size_alloc] at lfy)
      have X19 : Ext w18 w19 := by repeat' (first | (with_reducible exact Ext.refl _) | (with_reducible assumption) | (with_reducible refine Ext.drewN ?_ _) | (with_reducible refine Ext.drew ?_) | (with_reducible refine Ext.alloc ?_ _) | (with_reducible refine Ext.setCell ?_ ?_ _) | (with_reducible refine Ext.setRow ?_ ?_ _) | (with_reducible exact Nat.le_refl _) | (with_reducible refine Ext.trans ?_ (by assumption)) | omega)
      have Z19 := X19.size
      have E19 : Ext w w19 := E18.trans X19
      have Ba := Ba.ext X19
      have gw := gw.ext X19
      have Bw := Bw.ext X19
      have Bx := Bx.ext X19
      have Bg := Bg.ext X19
      have gm := gm.ext X19
      have gy := gy.ext X19
      clear hx19
      clear CBa LBa CBw LBw CBx LBx CBg LBg
      have CBa := Ba.cell; have LBa := Ba.lt
      have CBw := Bw.cell; have LBw := Bw.lt
      have CBx := Bx.cell; have LBx := Bx.lt
      have CBg := Bg.cell; have LBg := Bg.lt
      go_wp2_with fail
      refine (fallenStore_k ((gy.rd).ext (by repeat' (first | (with_reducible exact Ext.refl _) | (with_reducible assumption) | (with_reducible refine Ext.drewN ?_ _) | (with_reducible refine Ext.drew ?_) | (with_reducible refine Ext.alloc ?_ _) | (with_reducible refine Ext.setCell ?_ ?_ _) | (with_reducible refine Ext.setRow ?_ ?_ _) | (with_reducible exact Nat.le_refl _) | (with_reducible refine Ext.trans ?_ (by assumption)) | omega))) (OwnI.ints (gfy.ext (by repeat' (first | (with_reducible exact Ext.refl _) | (with_reducible assumption) | (with_reducible refine Ext.drewN ?_ _) | (with_reducible refine Ext.drew ?_) | (with_reducible refine Ext.alloc ?_ _) | (with_reducible refine Ext.setCell ?_ ?_ _) | (with_reducible refine Ext.setRow ?_ ?_ _) | (with_reducible exact Nat.le_refl _) | (with_reducible refine Ext.trans ?_ (by assumption)) | omega))))).mono ?_
      rintro e w20 ⟨_, rfl, hx20, Fh, gh⟩
      obtain ⟨ah0, nh0, kh0, ah1, nh1, kh1, ah4, nh4, kh4, ah5, nh5, kh5, rfl⟩ := gh.rd.shape
      have lh := gh.low; (try simp only [World.size_alloc] at lh)
      have X20 : Ext w19 w20 := by repeat' (first | (with_reducible exact Ext.refl _) | (with_reducible assumption) | (with_reducible refine Ext.drewN ?_ _) | (with_reducible refine Ext.drew ?_) | (with_reducible refine Ext.alloc ?_ _) | (with_reducible refine Ext.setCell ?_ ?_ _) | (with_reducible refine Ext.setRow ?_ ?_ _) | (with_reducible exact Nat.le_refl _) | (with_reducible refine Ext.trans ?_ (by assumption)) | omega)
      have Z20 := X20.size
      have E20 : Ext w w20 := E19.trans X20
      have Ba := Ba.ext X20
      have gw := gw.ext X20
      have Bw := Bw.ext X20
      have Bx := Bx.ext X20
      have Bg := Bg.ext X20
      have gm := gm.ext X20
      have gy := gy.ext X20
      have gfy := gfy.ext X20
      clear hx20
      clear CBa LBa CBw LBw CBx LBx CBg LBg
      have CBa := Ba.cell; have LBa := Ba.lt
      have CBw := Bw.cell; have LBw := Bw.lt
      have CBx := Bx.cell; have LBx := Bx.lt
      have CBg := Bg.cell; have LBg := Bg.lt
      go_wp2_with fail
      refine (eq_Store ((gh.rd).ext (by repeat' (first | (with_reducible exact Ext.refl _) | (with_reducible assumption) | (with_reducible refine Ext.drewN ?_ _) | (with_reducible refine Ext.drew ?_) | (with_reducible refine Ext.alloc ?_ _) | (with_reducible refine Ext.setCell ?_ ?_ _) | (with_reducible refine Ext.setRow ?_ ?_ _) | (with_reducible exact Nat.le_refl _) | (with_reducible refine Ext.trans ?_ (by assumption)) | omega))) ((gw.rd).ext (by repeat' (first | (with_reducible exact Ext.refl _) | (with_reducible assumption) | (with_reducible refine Ext.drewN ?_ _) | (with_reducible refine Ext.drew ?_) | (with_reducible refine Ext.alloc ?_ _) | (with_reducible refine Ext.setCell ?_ ?_ _) | (with_reducible refine Ext.setRow ?_ ?_ _) | (with_reducible exact Nat.le_refl _) | (with_reducible refine Ext.trans ?_ (by assumption)) | omega)))).mono ?_
      rintro e w21 ⟨rfl, hx21⟩
      have X21 : Ext w20 w21 := by repeat' (first | (with_reducible exact Ext.refl _) | (with_reducible assumption) | (with_reducible refine Ext.drewN ?_ _) | (with_reducible refine Ext.drew ?_) | (with_reducible refine Ext.alloc ?_ _) | (with_reducible refine Ext.setCell ?_ ?_ _) | (with_reducible refine Ext.setRow ?_ ?_ _) | (with_reducible exact Nat.le_refl _) | (with_reducible refine Ext.trans ?_ (by assumption)) | omega)
      have Bh : Blk w21 w20.heap.size 45 #[.slice ah0 nh0 kh0, .slice ah1 nh1 kh1, .int .i64 (fallenStore l1_0 S).State.Index, .int .i64 (fallenStore l1_0 S).State.Time, .slice ah4 nh4 kh4, .slice ah5 nh5 kh5, .int .i64 (fallenStore l1_0 S).State.Lease.Holder, .int .i64 (fallenStore l1_0 S).State.Lease.Epoch, .int .i64 (fallenStore l1_0 S).State.Lease.Until, .int .i64 (fallenStore l1_0 S).Num, .int .i64 (fallenStore l1_0 S).Last, .int .i64 (fallenStore l1_0 S).Busy] := (Blk.new w20 45 #[.slice ah0 nh0 kh0, .slice ah1 nh1 kh1, .int .i64 (fallenStore l1_0 S).State.Index, .int .i64 (fallenStore l1_0 S).State.Time, .slice ah4 nh4 kh4, .slice ah5 nh5 kh5, .int .i64 (fallenStore l1_0 S).State.Lease.Holder, .int .i64 (fallenStore l1_0 S).State.Lease.Epoch, .int .i64 (fallenStore l1_0 S).State.Lease.Until, .int .i64 (fallenStore l1_0 S).Num, .int .i64 (fallenStore l1_0 S).Last, .int .i64 (fallenStore l1_0 S).Busy]).ext hx21
      have MBh := Bh.lt
      have Z21 := X21.size
      have E21 : Ext w w21 := E20.trans X21
      have Ba := Ba.ext X21
      have gw := gw.ext X21
      have Bw := Bw.ext X21
      have Bx := Bx.ext X21
      have Bg := Bg.ext X21
      have gm := gm.ext X21
      have gh := gh.ext X21
      clear hx21
      clear CBa LBa CBw LBw CBx LBx CBg LBg
      have CBa := Ba.cell; have LBa := Ba.lt
      have CBw := Bw.cell; have LBw := Bw.lt
      have CBx := Bx.cell; have LBx := Bx.lt
      have CBg := Bg.cell; have LBg := Bg.lt
      have CBh := Bh.cell; have LBh := Bh.lt
      go_wp2_with fail
      refine (held_Store (gm.ext (by repeat' (first | (with_reducible exact Ext.refl _) | (with_reducible assumption) | (with_reducible refine Ext.drewN ?_ _) | (with_reducible refine Ext.drew ?_) | (with_reducible refine Ext.alloc ?_ _) | (with_reducible refine Ext.setCell ?_ ?_ _) | (with_reducible refine Ext.setRow ?_ ?_ _) | (with_reducible exact Nat.le_refl _) | (with_reducible refine Ext.trans ?_ (by assumption)) | omega))) (by omega) (by have := nb; omega)).mono ?_
      rintro e w22 ⟨rfl, hx22⟩
      rw [← HN.out]
      have X22 : Ext w21 w22 := by repeat' (first | (with_reducible exact Ext.refl _) | (with_reducible assumption) | (with_reducible refine Ext.drewN ?_ _) | (with_reducible refine Ext.drew ?_) | (with_reducible refine Ext.alloc ?_ _) | (with_reducible refine Ext.setCell ?_ ?_ _) | (with_reducible refine Ext.setRow ?_ ?_ _) | (with_reducible exact Nat.le_refl _) | (with_reducible refine Ext.trans ?_ (by assumption)) | omega)
      have Z22 := X22.size
      have E22 : Ext w w22 := E21.trans X22
      have Ba := Ba.ext X22
      have gw := gw.ext X22
      have Bw := Bw.ext X22
      have Bx := Bx.ext X22
      have Bg := Bg.ext X22
      have gm := gm.ext X22
      have gh := gh.ext X22
      have Bh := Bh.ext X22
      clear hx22
      clear CBa LBa CBw LBw CBx LBx CBg LBg CBh LBh
      have CBa := Ba.cell; have LBa := Ba.lt
      have CBw := Bw.cell; have LBw := Bw.lt
      have CBx := Bx.cell; have LBx := Bx.lt
      have CBg := Bg.cell; have LBg := Bg.lt
      have CBh := Bh.cell; have LBh := Bh.lt
      go_wp2
      go_ret
      exact ⟨rfl, E22⟩
end Go.Proofs.Ytankkbjlneeolaa
