/- The statement's walk: FnExactShotSynced. -/
import Derived.Test.YtankkbjlneeolaaQ12
set_option linter.unusedSimpArgs false
set_option linter.unusedVariables false
namespace Go.Proofs.Ytankkbjlneeolaa
open Go.RowKit Go.G8

set_option maxHeartbeats 4000000 in
set_option maxRecDepth 100000 in
theorem law_ShotSynced (w : World) (s0_0 : Value) (l0_0 : List (List Int)) (s0_1 : Value) (l0_1 : List DWrite) (c0_2 : Int) (c0_3 : Int) (s0_4 : Value) (l0_4 : List DPair) (s0_5 : Value) (l0_5 : List DJob) (c0_6 : Int) (c0_7 : Int) (c0_8 : Int) (c0_9 : Int) (c0_10 : Int) (c0_11 : Int) (h0_0 : Nest 0 w s0_0 (nestInt64S l0_0)) (h0_1 : Nest 1 w s0_1 (nestWrite l0_1)) (h0_4 : Ints 2 w s0_4 (flPair l0_4)) (h0_5 : Ints 5 w s0_5 (flJob l0_5)) : Calls Try.prog 4 #[.agg #[s0_0, s0_1, .int .i64 c0_2, .int .i64 c0_3, s0_4, s0_5, .int .i64 c0_6, .int .i64 c0_7, .int .i64 c0_8, .int .i64 c0_9, .int .i64 c0_10, .int .i64 c0_11]] w (RetV w (.bool true)) := by
  obtain ⟨a0_0, n0_0, k0_0, rfl⟩ := h0_0.shape
  obtain ⟨a0_1, n0_1, k0_1, rfl⟩ := h0_1.shape
  obtain ⟨a0_4, n0_4, k0_4, rfl⟩ := h0_4.shape
  obtain ⟨a0_5, n0_5, k0_5, rfl⟩ := h0_5.shape
  have h0 : RdStore w (.agg #[.slice a0_0 n0_0 k0_0, .slice a0_1 n0_1 k0_1, .int .i64 c0_2, .int .i64 c0_3, .slice a0_4 n0_4 k0_4, .slice a0_5 n0_5 k0_5, .int .i64 c0_6, .int .i64 c0_7, .int .i64 c0_8, .int .i64 c0_9, .int .i64 c0_10, .int .i64 c0_11]) ⟨⟨l0_0, l0_1⟩, ⟨c0_2, c0_3, l0_4, l0_5, ⟨c0_6, c0_7, c0_8⟩⟩, c0_9, c0_10, c0_11⟩ := ⟨_, _, _, _, rfl, h0_0, h0_1, h0_4, h0_5⟩
  obtain ⟨S, hS⟩ : ∃ S : DStore, S = ⟨⟨l0_0, l0_1⟩, ⟨c0_2, c0_3, l0_4, l0_5, ⟨c0_6, c0_7, c0_8⟩⟩, c0_9, c0_10, c0_11⟩ := ⟨_, rfl⟩
  rw [← hS] at h0
  have nb := nSs S
  go_enter Try.func4, Try.ntmps4
  go_wp2_with fail
  refine (szStore_c _ _ _ _ _ _ _ _ _ _ (length_flPair _) _ _ _ (length_flJob _) _ _ _ _ _ _ _ (h0_0.ext (by repeat' (first | (with_reducible exact Ext.refl _) | (with_reducible assumption) | (with_reducible refine Ext.drewN ?_ _) | (with_reducible refine Ext.drew ?_) | (with_reducible refine Ext.alloc ?_ _) | (with_reducible refine Ext.setCell ?_ ?_ _) | (with_reducible refine Ext.setRow ?_ ?_ _) | (with_reducible exact Nat.le_refl _) | (with_reducible refine Ext.trans ?_ (by assumption)) | omega))) (h0_1.ext (by repeat' (first | (with_reducible exact Ext.refl _) | (with_reducible assumption) | (with_reducible refine Ext.drewN ?_ _) | (with_reducible refine Ext.drew ?_) | (with_reducible refine Ext.alloc ?_ _) | (with_reducible refine Ext.setCell ?_ ?_ _) | (with_reducible refine Ext.setRow ?_ ?_ _) | (with_reducible exact Nat.le_refl _) | (with_reducible refine Ext.trans ?_ (by assumption)) | omega))) (h0_4.ext (by repeat' (first | (with_reducible exact Ext.refl _) | (with_reducible assumption) | (with_reducible refine Ext.drewN ?_ _) | (with_reducible refine Ext.drew ?_) | (with_reducible refine Ext.alloc ?_ _) | (with_reducible refine Ext.setCell ?_ ?_ _) | (with_reducible refine Ext.setRow ?_ ?_ _) | (with_reducible exact Nat.le_refl _) | (with_reducible refine Ext.trans ?_ (by assumption)) | omega))) (h0_5.ext (by repeat' (first | (with_reducible exact Ext.refl _) | (with_reducible assumption) | (with_reducible refine Ext.drewN ?_ _) | (with_reducible refine Ext.drew ?_) | (with_reducible refine Ext.alloc ?_ _) | (with_reducible refine Ext.setCell ?_ ?_ _) | (with_reducible refine Ext.setRow ?_ ?_ _) | (with_reducible exact Nat.le_refl _) | (with_reducible refine Ext.trans ?_ (by assumption)) | omega))) (by omega) (by omega)).mono ?_
  rintro e w1 ⟨v1, rfl, hx1, hv1⟩
  have X1 : Ext w w1 := by repeat' (first | (with_reducible exact Ext.refl _) | (with_reducible assumption) | (with_reducible refine Ext.drewN ?_ _) | (with_reducible refine Ext.drew ?_) | (with_reducible refine Ext.alloc ?_ _) | (with_reducible refine Ext.setCell ?_ ?_ _) | (with_reducible refine Ext.setRow ?_ ?_ _) | (with_reducible exact Nat.le_refl _) | (with_reducible refine Ext.trans ?_ (by assumption)) | omega)
  have Ba : Blk w1 w.heap.size 33 #[.slice a0_0 n0_0 k0_0, .slice a0_1 n0_1 k0_1, .int .i64 c0_2, .int .i64 c0_3, .slice a0_4 n0_4 k0_4, .slice a0_5 n0_5 k0_5, .int .i64 c0_6, .int .i64 c0_7, .int .i64 c0_8, .int .i64 c0_9, .int .i64 c0_10, .int .i64 c0_11] := (Blk.new w 33 #[.slice a0_0 n0_0 k0_0, .slice a0_1 n0_1 k0_1, .int .i64 c0_2, .int .i64 c0_3, .slice a0_4 n0_4 k0_4, .slice a0_5 n0_5 k0_5, .int .i64 c0_6, .int .i64 c0_7, .int .i64 c0_8, .int .i64 c0_9, .int .i64 c0_10, .int .i64 c0_11]).ext hx1
  have MBa := Ba.lt
  have Z1 := X1.size
  have E1 : Ext w w1 := X1
  clear hx1
  have CBa := Ba.cell; have LBa := Ba.lt
  rcases hv1 with ⟨rfl, qz⟩ | ⟨rfl, qz⟩
  · go_wp2; go_ret; exact ⟨rfl, by repeat' (first | (with_reducible exact Ext.refl _) | (with_reducible assumption) | (with_reducible refine Ext.drewN ?_ _) | (with_reducible refine Ext.drew ?_) | (with_reducible refine Ext.alloc ?_ _) | (with_reducible refine Ext.setCell ?_ ?_ _) | (with_reducible refine Ext.setRow ?_ ?_ _) | (with_reducible exact Nat.le_refl _) | (with_reducible refine Ext.trans ?_ (by assumption)) | omega)⟩
  have q0 : rowsSize (nestInt64S S.Disk.Kept) ≤ 1048576 := by rw [hS]; simp only []; omega
  have q1 : rowsSize (nestWrite S.Disk.Wait) ≤ 1048576 := by rw [hS]; simp only []; omega
  have q4 : S.State.Pairs.length ≤ 1048576 := by rw [hS]; simp only []; omega
  have q5 : S.State.Jobs.length ≤ 1048576 := by rw [hS]; simp only []; omega
  have nx := nStore_le S q4 q5 q0 q1
  clear hS h0_0 h0_1 h0_4 h0_5
  go_wp2_with fail
  refine (to_Store (h0.ext (by repeat' (first | (with_reducible exact Ext.refl _) | (with_reducible assumption) | (with_reducible refine Ext.drewN ?_ _) | (with_reducible refine Ext.drew ?_) | (with_reducible refine Ext.alloc ?_ _) | (with_reducible refine Ext.setCell ?_ ?_ _) | (with_reducible refine Ext.setRow ?_ ?_ _) | (with_reducible exact Nat.le_refl _) | (with_reducible refine Ext.trans ?_ (by assumption)) | omega))) q0 q1 q4 q5).mono ?_
  rintro e w2 ⟨_, rfl, hx2, Fu, gu⟩
  obtain ⟨au0, nu0, ku0, au1, nu1, ku1, au4, nu4, ku4, au5, nu5, ku5, rfl⟩ := gu.rd.shape
  have lu := gu.low; (try simp only [World.size_alloc] at lu)
  have X2 : Ext w1 w2 := by repeat' (first | (with_reducible exact Ext.refl _) | (with_reducible assumption) | (with_reducible refine Ext.drewN ?_ _) | (with_reducible refine Ext.drew ?_) | (with_reducible refine Ext.alloc ?_ _) | (with_reducible refine Ext.setCell ?_ ?_ _) | (with_reducible refine Ext.setRow ?_ ?_ _) | (with_reducible exact Nat.le_refl _) | (with_reducible refine Ext.trans ?_ (by assumption)) | omega)
  have Z2 := X2.size
  have E2 : Ext w w2 := E1.trans X2
  have Ba := Ba.ext X2
  clear hx2
  clear CBa LBa
  have CBa := Ba.cell; have LBa := Ba.lt
  go_wp2_with fail
  refine (sShotSynced_k ((gu.rd).ext (by repeat' (first | (with_reducible exact Ext.refl _) | (with_reducible assumption) | (with_reducible refine Ext.drewN ?_ _) | (with_reducible refine Ext.drew ?_) | (with_reducible refine Ext.alloc ?_ _) | (with_reducible refine Ext.setCell ?_ ?_ _) | (with_reducible refine Ext.setRow ?_ ?_ _) | (with_reducible exact Nat.le_refl _) | (with_reducible refine Ext.trans ?_ (by assumption)) | omega)))).mono ?_
  rintro e w3 ⟨_, rfl, hx3, vw, rfl, Fw, gw⟩
  obtain ⟨aw0, nw0, kw0, aw1, nw1, kw1, aw4, nw4, kw4, aw5, nw5, kw5, rfl⟩ := gw.rd.shape
  have lw := gw.low; (try simp only [World.size_alloc] at lw)
  have X3 : Ext w2 w3 := by repeat' (first | (with_reducible exact Ext.refl _) | (with_reducible assumption) | (with_reducible refine Ext.drewN ?_ _) | (with_reducible refine Ext.drew ?_) | (with_reducible refine Ext.alloc ?_ _) | (with_reducible refine Ext.setCell ?_ ?_ _) | (with_reducible refine Ext.setRow ?_ ?_ _) | (with_reducible exact Nat.le_refl _) | (with_reducible refine Ext.trans ?_ (by assumption)) | omega)
  have Z3 := X3.size
  have E3 : Ext w w3 := E2.trans X3
  have Ba := Ba.ext X3
  have gu := gu.ext X3
  clear hx3
  clear CBa LBa
  have CBa := Ba.cell; have LBa := Ba.lt
  go_wp2_with fail
  refine (to_Store (h0.ext (by repeat' (first | (with_reducible exact Ext.refl _) | (with_reducible assumption) | (with_reducible refine Ext.drewN ?_ _) | (with_reducible refine Ext.drew ?_) | (with_reducible refine Ext.alloc ?_ _) | (with_reducible refine Ext.setCell ?_ ?_ _) | (with_reducible refine Ext.setRow ?_ ?_ _) | (with_reducible exact Nat.le_refl _) | (with_reducible refine Ext.trans ?_ (by assumption)) | omega))) q0 q1 q4 q5).mono ?_
  rintro e w4 ⟨_, rfl, hx4, Fx, gx⟩
  obtain ⟨ax0, nx0, kx0, ax1, nx1, kx1, ax4, nx4, kx4, ax5, nx5, kx5, rfl⟩ := gx.rd.shape
  have lx := gx.low; (try simp only [World.size_alloc] at lx)
  have X4 : Ext w3 w4 := by repeat' (first | (with_reducible exact Ext.refl _) | (with_reducible assumption) | (with_reducible refine Ext.drewN ?_ _) | (with_reducible refine Ext.drew ?_) | (with_reducible refine Ext.alloc ?_ _) | (with_reducible refine Ext.setCell ?_ ?_ _) | (with_reducible refine Ext.setRow ?_ ?_ _) | (with_reducible exact Nat.le_refl _) | (with_reducible refine Ext.trans ?_ (by assumption)) | omega)
  have Bw : Blk w4 w3.heap.size 45 #[.slice aw0 nw0 kw0, .slice aw1 nw1 kw1, .int .i64 (ssStore S).State.Index, .int .i64 (ssStore S).State.Time, .slice aw4 nw4 kw4, .slice aw5 nw5 kw5, .int .i64 (ssStore S).State.Lease.Holder, .int .i64 (ssStore S).State.Lease.Epoch, .int .i64 (ssStore S).State.Lease.Until, .int .i64 (ssStore S).Num, .int .i64 (ssStore S).Last, .int .i64 (ssStore S).Busy] := (Blk.new w3 45 #[.slice aw0 nw0 kw0, .slice aw1 nw1 kw1, .int .i64 (ssStore S).State.Index, .int .i64 (ssStore S).State.Time, .slice aw4 nw4 kw4, .slice aw5 nw5 kw5, .int .i64 (ssStore S).State.Lease.Holder, .int .i64 (ssStore S).State.Lease.Epoch, .int .i64 (ssStore S).State.Lease.Until, .int .i64 (ssStore S).Num, .int .i64 (ssStore S).Last, .int .i64 (ssStore S).Busy]).ext hx4
  have MBw := Bw.lt
  have Z4 := X4.size
  have E4 : Ext w w4 := E3.trans X4
  have Ba := Ba.ext X4
  have gw := gw.ext X4
  clear hx4
  clear CBa LBa
  have CBa := Ba.cell; have LBa := Ba.lt
  have CBw := Bw.cell; have LBw := Bw.lt
  go_wp2_with fail
  refine (shotSynced_k ((gx.rd).ext (by repeat' (first | (with_reducible exact Ext.refl _) | (with_reducible assumption) | (with_reducible refine Ext.drewN ?_ _) | (with_reducible refine Ext.drew ?_) | (with_reducible refine Ext.alloc ?_ _) | (with_reducible refine Ext.setCell ?_ ?_ _) | (with_reducible refine Ext.setRow ?_ ?_ _) | (with_reducible exact Nat.le_refl _) | (with_reducible refine Ext.trans ?_ (by assumption)) | omega)))).mono ?_
  rintro e w5 ⟨_, rfl, hx5, vg, rfl, Fg, gg⟩
  obtain ⟨ag0, ng0, kg0, ag1, ng1, kg1, ag4, ng4, kg4, ag5, ng5, kg5, rfl⟩ := gg.rd.shape
  have lg := gg.low; (try simp only [World.size_alloc] at lg)
  have X5 : Ext w4 w5 := by repeat' (first | (with_reducible exact Ext.refl _) | (with_reducible assumption) | (with_reducible refine Ext.drewN ?_ _) | (with_reducible refine Ext.drew ?_) | (with_reducible refine Ext.alloc ?_ _) | (with_reducible refine Ext.setCell ?_ ?_ _) | (with_reducible refine Ext.setRow ?_ ?_ _) | (with_reducible exact Nat.le_refl _) | (with_reducible refine Ext.trans ?_ (by assumption)) | omega)
  have Bx : Blk w5 w4.heap.size 45 #[.slice ax0 nx0 kx0, .slice ax1 nx1 kx1, .int .i64 S.State.Index, .int .i64 S.State.Time, .slice ax4 nx4 kx4, .slice ax5 nx5 kx5, .int .i64 S.State.Lease.Holder, .int .i64 S.State.Lease.Epoch, .int .i64 S.State.Lease.Until, .int .i64 S.Num, .int .i64 S.Last, .int .i64 S.Busy] := (Blk.new w4 45 #[.slice ax0 nx0 kx0, .slice ax1 nx1 kx1, .int .i64 S.State.Index, .int .i64 S.State.Time, .slice ax4 nx4 kx4, .slice ax5 nx5 kx5, .int .i64 S.State.Lease.Holder, .int .i64 S.State.Lease.Epoch, .int .i64 S.State.Lease.Until, .int .i64 S.Num, .int .i64 S.Last, .int .i64 S.Busy]).ext hx5
  have MBx := Bx.lt
  have Z5 := X5.size
  have E5 : Ext w w5 := E4.trans X5
  have Ba := Ba.ext X5
  have gw := gw.ext X5
  have Bw := Bw.ext X5
  have gx := gx.ext X5
  clear hx5
  clear CBa LBa CBw LBw
  have CBa := Ba.cell; have LBa := Ba.lt
  have CBw := Bw.cell; have LBw := Bw.lt
  have CBx := Bx.cell; have LBx := Bx.lt
  as_aux_lemma =>
    go_wp2_with fail
    refine (eq_Store ((gg.rd).ext (by repeat' (first | (with_reducible exact Ext.refl _) | (with_reducible assumption) | (with_reducible refine Ext.drewN ?_ _) | (with_reducible refine Ext.drew ?_) | (with_reducible refine Ext.alloc ?_ _) | (with_reducible refine Ext.setCell ?_ ?_ _) | (with_reducible refine Ext.setRow ?_ ?_ _) | (with_reducible exact Nat.le_refl _) | (with_reducible refine Ext.trans ?_ (by assumption)) | omega))) ((gw.rd).ext (by repeat' (first | (with_reducible exact Ext.refl _) | (with_reducible assumption) | (with_reducible refine Ext.drewN ?_ _) | (with_reducible refine Ext.drew ?_) | (with_reducible refine Ext.alloc ?_ _) | (with_reducible refine Ext.setCell ?_ ?_ _) | (with_reducible refine Ext.setRow ?_ ?_ _) | (with_reducible exact Nat.le_refl _) | (with_reducible refine Ext.trans ?_ (by assumption)) | omega)))).mono ?_
    rintro e w6 ⟨rfl, hx6⟩
    have X6 : Ext w5 w6 := by repeat' (first | (with_reducible exact Ext.refl _) | (with_reducible assumption) | (with_reducible refine Ext.drewN ?_ _) | (with_reducible refine Ext.drew ?_) | (with_reducible refine Ext.alloc ?_ _) | (with_reducible refine Ext.setCell ?_ ?_ _) | (with_reducible refine Ext.setRow ?_ ?_ _) | (with_reducible exact Nat.le_refl _) | (with_reducible refine Ext.trans ?_ (by assumption)) | omega)
    have Bg : Blk w6 w5.heap.size 45 #[.slice ag0 ng0 kg0, .slice ag1 ng1 kg1, .int .i64 (ssStore S).State.Index, .int .i64 (ssStore S).State.Time, .slice ag4 ng4 kg4, .slice ag5 ng5 kg5, .int .i64 (ssStore S).State.Lease.Holder, .int .i64 (ssStore S).State.Lease.Epoch, .int .i64 (ssStore S).State.Lease.Until, .int .i64 (ssStore S).Num, .int .i64 (ssStore S).Last, .int .i64 (ssStore S).Busy] := (Blk.new w5 45 #[.slice ag0 ng0 kg0, .slice ag1 ng1 kg1, .int .i64 (ssStore S).State.Index, .int .i64 (ssStore S).State.Time, .slice ag4 ng4 kg4, .slice ag5 ng5 kg5, .int .i64 (ssStore S).State.Lease.Holder, .int .i64 (ssStore S).State.Lease.Epoch, .int .i64 (ssStore S).State.Lease.Until, .int .i64 (ssStore S).Num, .int .i64 (ssStore S).Last, .int .i64 (ssStore S).Busy]).ext hx6
    have MBg := Bg.lt
    have Z6 := X6.size
    have E6 : Ext w w6 := E5.trans X6
    have Ba := Ba.ext X6
    have gw := gw.ext X6
    have Bw := Bw.ext X6
    have gx := gx.ext X6
    have Bx := Bx.ext X6
    have gg := gg.ext X6
    clear hx6
    clear CBa LBa CBw LBw CBx LBx
    have CBa := Ba.cell; have LBa := Ba.lt
    have CBw := Bw.cell; have LBw := Bw.lt
    have CBx := Bx.cell; have LBx := Bx.lt
    have CBg := Bg.cell; have LBg := Bg.lt
    go_wp2_with fail
    have ya0 : ∀ w', Ext w6 w' → w'.cell? ⟨_, 0, none⟩ = some (.slice a0_0 n0_0 k0_0) := fun w' hw => (Ba.ext hw).cell 0
    have ya1 : ∀ w', Ext w6 w' → w'.cell? ⟨_, 1, none⟩ = some (.slice a0_1 n0_1 k0_1) := fun w' hw => (Ba.ext hw).cell 1
    have ya2 : ∀ w', Ext w6 w' → w'.cell? ⟨_, 2, none⟩ = some (.int .i64 c0_2) := fun w' hw => (Ba.ext hw).cell 2
    have ya3 : ∀ w', Ext w6 w' → w'.cell? ⟨_, 3, none⟩ = some (.int .i64 c0_3) := fun w' hw => (Ba.ext hw).cell 3
    have ya4 : ∀ w', Ext w6 w' → w'.cell? ⟨_, 4, none⟩ = some (.slice a0_4 n0_4 k0_4) := fun w' hw => (Ba.ext hw).cell 4
    have ya5 : ∀ w', Ext w6 w' → w'.cell? ⟨_, 5, none⟩ = some (.slice a0_5 n0_5 k0_5) := fun w' hw => (Ba.ext hw).cell 5
    have ya6 : ∀ w', Ext w6 w' → w'.cell? ⟨_, 6, none⟩ = some (.int .i64 c0_6) := fun w' hw => (Ba.ext hw).cell 6
    have ya7 : ∀ w', Ext w6 w' → w'.cell? ⟨_, 7, none⟩ = some (.int .i64 c0_7) := fun w' hw => (Ba.ext hw).cell 7
    have ya8 : ∀ w', Ext w6 w' → w'.cell? ⟨_, 8, none⟩ = some (.int .i64 c0_8) := fun w' hw => (Ba.ext hw).cell 8
    have ya9 : ∀ w', Ext w6 w' → w'.cell? ⟨_, 9, none⟩ = some (.int .i64 c0_9) := fun w' hw => (Ba.ext hw).cell 9
    have ya10 : ∀ w', Ext w6 w' → w'.cell? ⟨_, 10, none⟩ = some (.int .i64 c0_10) := fun w' hw => (Ba.ext hw).cell 10
    have ya11 : ∀ w', Ext w6 w' → w'.cell? ⟨_, 11, none⟩ = some (.int .i64 c0_11) := fun w' hw => (Ba.ext hw).cell 11
    have yb0 : ∀ w', Ext w6 w' → w'.cell? ⟨_, 0, none⟩ = some (.slice ax0 nx0 kx0) := fun w' hw => (Bx.ext hw).cell 0
    have yb1 : ∀ w', Ext w6 w' → w'.cell? ⟨_, 1, none⟩ = some (.slice ax1 nx1 kx1) := fun w' hw => (Bx.ext hw).cell 1
    have yb2 : ∀ w', Ext w6 w' → w'.cell? ⟨_, 2, none⟩ = some (.int .i64 S.State.Index) := fun w' hw => (Bx.ext hw).cell 2
    have yb3 : ∀ w', Ext w6 w' → w'.cell? ⟨_, 3, none⟩ = some (.int .i64 S.State.Time) := fun w' hw => (Bx.ext hw).cell 3
    have yb4 : ∀ w', Ext w6 w' → w'.cell? ⟨_, 4, none⟩ = some (.slice ax4 nx4 kx4) := fun w' hw => (Bx.ext hw).cell 4
    have yb5 : ∀ w', Ext w6 w' → w'.cell? ⟨_, 5, none⟩ = some (.slice ax5 nx5 kx5) := fun w' hw => (Bx.ext hw).cell 5
    have yb6 : ∀ w', Ext w6 w' → w'.cell? ⟨_, 6, none⟩ = some (.int .i64 S.State.Lease.Holder) := fun w' hw => (Bx.ext hw).cell 6
    have yb7 : ∀ w', Ext w6 w' → w'.cell? ⟨_, 7, none⟩ = some (.int .i64 S.State.Lease.Epoch) := fun w' hw => (Bx.ext hw).cell 7
    have yb8 : ∀ w', Ext w6 w' → w'.cell? ⟨_, 8, none⟩ = some (.int .i64 S.State.Lease.Until) := fun w' hw => (Bx.ext hw).cell 8
    have yb9 : ∀ w', Ext w6 w' → w'.cell? ⟨_, 9, none⟩ = some (.int .i64 S.Num) := fun w' hw => (Bx.ext hw).cell 9
    have yb10 : ∀ w', Ext w6 w' → w'.cell? ⟨_, 10, none⟩ = some (.int .i64 S.Last) := fun w' hw => (Bx.ext hw).cell 10
    have yb11 : ∀ w', Ext w6 w' → w'.cell? ⟨_, 11, none⟩ = some (.int .i64 S.Busy) := fun w' hw => (Bx.ext hw).cell 11
    clear CBa LBa CBw LBw CBx LBx CBg LBg
    go_region_held3 (fun w' => Ext w6 w') (first | exact Ext.drew (Ext.refl _) | exact Ext.trans (by assumption) hx7 | exact Ext.trans (by assumption) hx8) (first | (go_at_call 8; refine (to_Store (h0.ext (Ext.trans E6 (by assumption))) q0 q1 q4 q5).mono ?_; rintro e w7 ⟨_, rfl, hx7, Fz, gz⟩; obtain ⟨az0, nz0, kz0, az1, nz1, kz1, az4, nz4, kz4, az5, nz5, kz5, rfl⟩ := gz.rd.shape) | (go_at_call 11; refine (eq_Store ((gx.rd).ext (by assumption)) gz.rd).mono ?_; rintro e w8 ⟨rfl, hx8⟩))
    have X8 : Ext w6 w8 := by assumption
    clear ya0 yb0 ya1 yb1 ya2 yb2 ya3 yb3 ya4 yb4 ya5 yb5 ya6 yb6 ya7 yb7 ya8 yb8 ya9 yb9 ya10 yb10 ya11 yb11 hx8
    have Z8 := X8.size; have E8 : Ext w w8 := E6.trans X8
    have Ba := Ba.ext X8
    have gw := gw.ext X8
    have Bw := Bw.ext X8
    have gx := gx.ext X8
    have Bx := Bx.ext X8
    have gg := gg.ext X8
    have Bg := Bg.ext X8
    have CBa := Ba.cell; have LBa := Ba.lt
    have CBw := Bw.cell; have LBw := Bw.lt
    have CBx := Bx.cell; have LBx := Bx.lt
    have CBg := Bg.cell; have LBg := Bg.lt
    as_aux_lemma =>
      go_wp2_with fail
      refine (mark_Store (gx.ext (by repeat' (first | (with_reducible exact Ext.refl _) | (with_reducible assumption) | (with_reducible refine Ext.drewN ?_ _) | (with_reducible refine Ext.drew ?_) | (with_reducible refine Ext.alloc ?_ _) | (with_reducible refine Ext.setCell ?_ ?_ _) | (with_reducible refine Ext.setRow ?_ ?_ _) | (with_reducible exact Nat.le_refl _) | (with_reducible refine Ext.trans ?_ (by assumption)) | omega))) (by omega) (by have := nx; omega)).mono ?_
      rintro e w9 ⟨rfl, hx9, gxm⟩
      have X9 : Upd w8 w9 Fx := (Ext.upd (by repeat' (first | (with_reducible exact Ext.refl _) | (with_reducible assumption) | (with_reducible refine Ext.drewN ?_ _) | (with_reducible refine Ext.drew ?_) | (with_reducible refine Ext.alloc ?_ _) | (with_reducible refine Ext.setCell ?_ ?_ _) | (with_reducible refine Ext.setRow ?_ ?_ _) | (with_reducible exact Nat.le_refl _) | (with_reducible refine Ext.trans ?_ (by assumption)) | omega)) _).trans hx9
      have Z9 := X9.size
      have E9 : Ext w w9 := E8.upd_below X9 (fun k hk => by have := lx k hk; omega)
      have Ba := Ba.upd X9 (fun hk => by have := lx _ hk; omega)
      have gw := gw.upd X9 (fun k hk hk' => by have := lx k hk'; have := lw k hk; omega)
      have Bw := Bw.upd X9 (fun hk => by have := lx _ hk; omega)
      have Bx := Bx.upd X9 (fun hk => by have := lx _ hk; omega)
      have gg := gg.upd X9 (fun k hk hk' => by have := lx k hk'; have := lg k hk; omega)
      have Bg := Bg.upd X9 (fun hk => by have := lx _ hk; omega)
      obtain ⟨K, hK⟩ : ∃ z : Int, z = 1 + ((nStore (S) : Nat) : Int) := ⟨_, rfl⟩
      rw [← hK]
      have pK : 0 ≤ K := by omega
      have rK : K ≤ 1000000000 := by have := nx; omega
      have HK := Lib.hid hK
      clear hK
      have dK : decide (K < 0) = false := by simp; omega
      clear hx9
      clear CBa LBa CBw LBw CBx LBx CBg LBg
      have CBa := Ba.cell; have LBa := Ba.lt
      have CBw := Bw.cell; have LBw := Bw.lt
      have CBx := Bx.cell; have LBx := Bx.lt
      have CBg := Bg.cell; have LBg := Bg.lt
      go_wp2_with fail
      refine (eq_Store ((gg.rd).ext (by repeat' (first | (with_reducible exact Ext.refl _) | (with_reducible assumption) | (with_reducible refine Ext.drewN ?_ _) | (with_reducible refine Ext.drew ?_) | (with_reducible refine Ext.alloc ?_ _) | (with_reducible refine Ext.setCell ?_ ?_ _) | (with_reducible refine Ext.setRow ?_ ?_ _) | (with_reducible exact Nat.le_refl _) | (with_reducible refine Ext.trans ?_ (by assumption)) | omega))) ((gw.rd).ext (by repeat' (first | (with_reducible exact Ext.refl _) | (with_reducible assumption) | (with_reducible refine Ext.drewN ?_ _) | (with_reducible refine Ext.drew ?_) | (with_reducible refine Ext.alloc ?_ _) | (with_reducible refine Ext.setCell ?_ ?_ _) | (with_reducible refine Ext.setRow ?_ ?_ _) | (with_reducible exact Nat.le_refl _) | (with_reducible refine Ext.trans ?_ (by assumption)) | omega)))).mono ?_
      rintro e w10 ⟨rfl, hx10⟩
      have X10 : Ext w9 w10 := by repeat' (first | (with_reducible exact Ext.refl _) | (with_reducible assumption) | (with_reducible refine Ext.drewN ?_ _) | (with_reducible refine Ext.drew ?_) | (with_reducible refine Ext.alloc ?_ _) | (with_reducible refine Ext.setCell ?_ ?_ _) | (with_reducible refine Ext.setRow ?_ ?_ _) | (with_reducible exact Nat.le_refl _) | (with_reducible refine Ext.trans ?_ (by assumption)) | omega)
      have Z10 := X10.size
      have E10 : Ext w w10 := E9.trans X10
      have Ba := Ba.ext X10
      have gw := gw.ext X10
      have Bw := Bw.ext X10
      have Bx := Bx.ext X10
      have gg := gg.ext X10
      have Bg := Bg.ext X10
      clear hx10
      clear CBa LBa CBw LBw CBx LBx CBg LBg
      have CBa := Ba.cell; have LBa := Ba.lt
      have CBw := Bw.cell; have LBw := Bw.lt
      have CBx := Bx.cell; have LBx := Bx.lt
      have CBg := Bg.cell; have LBg := Bg.lt
      go_wp2_with fail
      refine (mark_Store (gg.ext (by repeat' (first | (with_reducible exact Ext.refl _) | (with_reducible assumption) | (with_reducible refine Ext.drewN ?_ _) | (with_reducible refine Ext.drew ?_) | (with_reducible refine Ext.alloc ?_ _) | (with_reducible refine Ext.setCell ?_ ?_ _) | (with_reducible refine Ext.setRow ?_ ?_ _) | (with_reducible exact Nat.le_refl _) | (with_reducible refine Ext.trans ?_ (by assumption)) | omega))) (by omega) (by have := nb; omega)).mono ?_
      rintro e w11 ⟨rfl, hx11, gm⟩
      have X11 : Upd w10 w11 Fg := (Ext.upd (by repeat' (first | (with_reducible exact Ext.refl _) | (with_reducible assumption) | (with_reducible refine Ext.drewN ?_ _) | (with_reducible refine Ext.drew ?_) | (with_reducible refine Ext.alloc ?_ _) | (with_reducible refine Ext.setCell ?_ ?_ _) | (with_reducible refine Ext.setRow ?_ ?_ _) | (with_reducible exact Nat.le_refl _) | (with_reducible refine Ext.trans ?_ (by assumption)) | omega)) _).trans hx11
      have Z11 := X11.size
      have E11 : Ext w w11 := E10.upd_below X11 (fun k hk => by have := lg k hk; omega)
      have Ba := Ba.upd X11 (fun hk => by have := lg _ hk; omega)
      have gw := gw.upd X11 (fun k hk hk' => by have := lg k hk'; have := lw k hk; omega)
      have Bw := Bw.upd X11 (fun hk => by have := lg _ hk; omega)
      have Bx := Bx.upd X11 (fun hk => by have := lg _ hk; omega)
      have Bg := Bg.upd X11 (fun hk => by have := lg _ hk; omega)
      obtain ⟨N, hN⟩ : ∃ z : Int, z = 1 + ((nStore (ssStore S) : Nat) : Int) := ⟨_, rfl⟩
      rw [← hN]
      have pN : 0 ≤ N := by omega
      have rN : N ≤ 1000000000 := by have := nb; omega
      have HN := Lib.hid hN
      clear hN
      have dN : decide (N < 0) = false := by simp; omega
      clear hx11
      clear CBa LBa CBw LBw CBx LBx CBg LBg
      have CBa := Ba.cell; have LBa := Ba.lt
      have CBw := Bw.cell; have LBw := Bw.lt
      have CBx := Bx.cell; have LBx := Bx.lt
      have CBg := Bg.cell; have LBg := Bg.lt
      go_wp2_with fail
      refine (held_Store (gm.ext (by repeat' (first | (with_reducible exact Ext.refl _) | (with_reducible assumption) | (with_reducible refine Ext.drewN ?_ _) | (with_reducible refine Ext.drew ?_) | (with_reducible refine Ext.alloc ?_ _) | (with_reducible refine Ext.setCell ?_ ?_ _) | (with_reducible refine Ext.setRow ?_ ?_ _) | (with_reducible exact Nat.le_refl _) | (with_reducible refine Ext.trans ?_ (by assumption)) | omega))) (by omega) (by have := nb; omega)).mono ?_
      rintro e w12 ⟨rfl, hx12⟩
      rw [← HN.out]
      have X12 : Ext w11 w12 := by repeat' (first | (with_reducible exact Ext.refl _) | (with_reducible assumption) | (with_reducible refine Ext.drewN ?_ _) | (with_reducible refine Ext.drew ?_) | (with_reducible refine Ext.alloc ?_ _) | (with_reducible refine Ext.setCell ?_ ?_ _) | (with_reducible refine Ext.setRow ?_ ?_ _) | (with_reducible exact Nat.le_refl _) | (with_reducible refine Ext.trans ?_ (by assumption)) | omega)
      have Z12 := X12.size
      have E12 : Ext w w12 := E11.trans X12
      have Ba := Ba.ext X12
      have gw := gw.ext X12
      have Bw := Bw.ext X12
      have Bx := Bx.ext X12
      have Bg := Bg.ext X12
      have gm := gm.ext X12
      clear hx12
      clear CBa LBa CBw LBw CBx LBx CBg LBg
      have CBa := Ba.cell; have LBa := Ba.lt
      have CBw := Bw.cell; have LBw := Bw.lt
      have CBx := Bx.cell; have LBx := Bx.lt
      have CBg := Bg.cell; have LBg := Bg.lt
      go_wp2_with fail
      refine (to_Store (h0.ext (by repeat' (first | (with_reducible exact Ext.refl _) | (with_reducible assumption) | (with_reducible refine Ext.drewN ?_ _) | (with_reducible refine Ext.drew ?_) | (with_reducible refine Ext.alloc ?_ _) | (with_reducible refine Ext.setCell ?_ ?_ _) | (with_reducible refine Ext.setRow ?_ ?_ _) | (with_reducible exact Nat.le_refl _) | (with_reducible refine Ext.trans ?_ (by assumption)) | omega))) q0 q1 q4 q5).mono ?_
      rintro e w13 ⟨_, rfl, hx13, Fy, gy⟩
      obtain ⟨ay0, ny0, ky0, ay1, ny1, ky1, ay4, ny4, ky4, ay5, ny5, ky5, rfl⟩ := gy.rd.shape
      have ly := gy.low; (try simp only [World.size_alloc] at ly)
      have X13 : Ext w12 w13 := by repeat' (first | (with_reducible exact Ext.refl _) | (with_reducible assumption) | (with_reducible refine Ext.drewN ?_ _) | (with_reducible refine Ext.drew ?_) | (with_reducible refine Ext.alloc ?_ _) | (with_reducible refine Ext.setCell ?_ ?_ _) | (with_reducible refine Ext.setRow ?_ ?_ _) | (with_reducible exact Nat.le_refl _) | (with_reducible refine Ext.trans ?_ (by assumption)) | omega)
      have Z13 := X13.size
      have E13 : Ext w w13 := E12.trans X13
      have Ba := Ba.ext X13
      have gw := gw.ext X13
      have Bw := Bw.ext X13
      have Bx := Bx.ext X13
      have Bg := Bg.ext X13
      have gm := gm.ext X13
      clear hx13
      clear CBa LBa CBw LBw CBx LBx CBg LBg
      have CBa := Ba.cell; have LBa := Ba.lt
      have CBw := Bw.cell; have LBw := Bw.lt
      have CBx := Bx.cell; have LBx := Bx.lt
      have CBg := Bg.cell; have LBg := Bg.lt
      go_wp2_with fail
      refine (shotSynced_k ((gy.rd).ext (by repeat' (first | (with_reducible exact Ext.refl _) | (with_reducible assumption) | (with_reducible refine Ext.drewN ?_ _) | (with_reducible refine Ext.drew ?_) | (with_reducible refine Ext.alloc ?_ _) | (with_reducible refine Ext.setCell ?_ ?_ _) | (with_reducible refine Ext.setRow ?_ ?_ _) | (with_reducible exact Nat.le_refl _) | (with_reducible refine Ext.trans ?_ (by assumption)) | omega)))).mono ?_
      rintro e w14 ⟨_, rfl, hx14, vh, rfl, Fh, gh⟩
      obtain ⟨ah0, nh0, kh0, ah1, nh1, kh1, ah4, nh4, kh4, ah5, nh5, kh5, rfl⟩ := gh.rd.shape
      have lh := gh.low; (try simp only [World.size_alloc] at lh)
      have X14 : Ext w13 w14 := by repeat' (first | (with_reducible exact Ext.refl _) | (with_reducible assumption) | (with_reducible refine Ext.drewN ?_ _) | (with_reducible refine Ext.drew ?_) | (with_reducible refine Ext.alloc ?_ _) | (with_reducible refine Ext.setCell ?_ ?_ _) | (with_reducible refine Ext.setRow ?_ ?_ _) | (with_reducible exact Nat.le_refl _) | (with_reducible refine Ext.trans ?_ (by assumption)) | omega)
      have Z14 := X14.size
      have E14 : Ext w w14 := E13.trans X14
      have Ba := Ba.ext X14
      have gw := gw.ext X14
      have Bw := Bw.ext X14
      have Bx := Bx.ext X14
      have Bg := Bg.ext X14
      have gm := gm.ext X14
      have gy := gy.ext X14
      clear hx14
      clear CBa LBa CBw LBw CBx LBx CBg LBg
      have CBa := Ba.cell; have LBa := Ba.lt
      have CBw := Bw.cell; have LBw := Bw.lt
      have CBx := Bx.cell; have LBx := Bx.lt
      have CBg := Bg.cell; have LBg := Bg.lt
      go_wp2_with fail
      refine (eq_Store ((gh.rd).ext (by repeat' (first | (with_reducible exact Ext.refl _) | (with_reducible assumption) | (with_reducible refine Ext.drewN ?_ _) | (with_reducible refine Ext.drew ?_) | (with_reducible refine Ext.alloc ?_ _) | (with_reducible refine Ext.setCell ?_ ?_ _) | (with_reducible refine Ext.setRow ?_ ?_ _) | (with_reducible exact Nat.le_refl _) | (with_reducible refine Ext.trans ?_ (by assumption)) | omega))) ((gw.rd).ext (by repeat' (first | (with_reducible exact Ext.refl _) | (with_reducible assumption) | (with_reducible refine Ext.drewN ?_ _) | (with_reducible refine Ext.drew ?_) | (with_reducible refine Ext.alloc ?_ _) | (with_reducible refine Ext.setCell ?_ ?_ _) | (with_reducible refine Ext.setRow ?_ ?_ _) | (with_reducible exact Nat.le_refl _) | (with_reducible refine Ext.trans ?_ (by assumption)) | omega)))).mono ?_
      rintro e w15 ⟨rfl, hx15⟩
      have X15 : Ext w14 w15 := by repeat' (first | (with_reducible exact Ext.refl _) | (with_reducible assumption) | (with_reducible refine Ext.drewN ?_ _) | (with_reducible refine Ext.drew ?_) | (with_reducible refine Ext.alloc ?_ _) | (with_reducible refine Ext.setCell ?_ ?_ _) | (with_reducible refine Ext.setRow ?_ ?_ _) | (with_reducible exact Nat.le_refl _) | (with_reducible refine Ext.trans ?_ (by assumption)) | omega)
      have Bh : Blk w15 w14.heap.size 45 #[.slice ah0 nh0 kh0, .slice ah1 nh1 kh1, .int .i64 (ssStore S).State.Index, .int .i64 (ssStore S).State.Time, .slice ah4 nh4 kh4, .slice ah5 nh5 kh5, .int .i64 (ssStore S).State.Lease.Holder, .int .i64 (ssStore S).State.Lease.Epoch, .int .i64 (ssStore S).State.Lease.Until, .int .i64 (ssStore S).Num, .int .i64 (ssStore S).Last, .int .i64 (ssStore S).Busy] := (Blk.new w14 45 #[.slice ah0 nh0 kh0, .slice ah1 nh1 kh1, .int .i64 (ssStore S).State.Index, .int .i64 (ssStore S).State.Time, .slice ah4 nh4 kh4, .slice ah5 nh5 kh5, .int .i64 (ssStore S).State.Lease.Holder, .int .i64 (ssStore S).State.Lease.Epoch, .int .i64 (ssStore S).State.Lease.Until, .int .i64 (ssStore S).Num, .int .i64 (ssStore S).Last, .int .i64 (ssStore S).Busy]).ext hx15
      have MBh := Bh.lt
      have Z15 := X15.size
      have E15 : Ext w w15 := E14.trans X15
      have Ba := Ba.ext X15
      have gw := gw.ext X15
      have Bw := Bw.ext X15
      have Bx := Bx.ext X15
      have Bg := Bg.ext X15
      have gm := gm.ext X15
      have gh := gh.ext X15
      clear hx15
      clear CBa LBa CBw LBw CBx LBx CBg LBg
      have CBa := Ba.cell; have LBa := Ba.lt
      have CBw := Bw.cell; have LBw := Bw.lt
      have CBx := Bx.cell; have LBx := Bx.lt
      have CBg := Bg.cell; have LBg := Bg.lt
      have CBh := Bh.cell; have LBh := Bh.lt
      go_wp2_with fail
      refine (held_Store (gm.ext (by repeat' (first | (with_reducible exact Ext.refl _) | (with_reducible assumption) | (with_reducible refine Ext.drewN ?_ _) | (with_reducible refine Ext.drew ?_) | (with_reducible refine Ext.alloc ?_ _) | (with_reducible refine Ext.setCell ?_ ?_ _) | (with_reducible refine Ext.setRow ?_ ?_ _) | (with_reducible exact Nat.le_refl _) | (with_reducible refine Ext.trans ?_ (by assumption)) | omega))) (by omega) (by have := nb; omega)).mono ?_
      rintro e w16 ⟨rfl, hx16⟩
      rw [← HN.out]
      have X16 : Ext w15 w16 := by repeat' (first | (with_reducible exact Ext.refl _) | (with_reducible assumption) | (with_reducible refine Ext.drewN ?_ _) | (with_reducible refine Ext.drew ?_) | (with_reducible refine Ext.alloc ?_ _) | (with_reducible refine Ext.setCell ?_ ?_ _) | (with_reducible refine Ext.setRow ?_ ?_ _) | (with_reducible exact Nat.le_refl _) | (with_reducible refine Ext.trans ?_ (by assumption)) | omega)
      have Z16 := X16.size
      have E16 : Ext w w16 := E15.trans X16
      have Ba := Ba.ext X16
      have gw := gw.ext X16
      have Bw := Bw.ext X16
      have Bx := Bx.ext X16
      have Bg := Bg.ext X16
      have gm := gm.ext X16
      have gh := gh.ext X16
      have Bh := Bh.ext X16
      clear hx16
      clear CBa LBa CBw LBw CBx LBx CBg LBg CBh LBh
      have CBa := Ba.cell; have LBa := Ba.lt
      have CBw := Bw.cell; have LBw := Bw.lt
      have CBx := Bx.cell; have LBx := Bx.lt
      have CBg := Bg.cell; have LBg := Bg.lt
      have CBh := Bh.cell; have LBh := Bh.lt
      go_wp2
      go_ret
      exact ⟨rfl, E16⟩
end Go.Proofs.Ytankkbjlneeolaa
