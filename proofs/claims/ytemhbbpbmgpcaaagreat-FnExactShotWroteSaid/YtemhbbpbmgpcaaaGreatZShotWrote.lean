/- The statement FnExactShotWrote: the walk and the row. -/
import Derived.Test.YtemhbbpbmgpcaaaGreatGi
import Derived.Deep.DeepCutAuto
import Derived.Test.YtemhbbpbmgpcaaaGreatGc
-- The statement's walk: FnExactShotWrote.
set_option linter.unusedSimpArgs false
set_option linter.unusedVariables false
namespace Go.Proofs.YtemhbbpbmgpcaaaGreat
open Go.RowKit Go.G8

set_option maxHeartbeats 8000000 in
set_option maxRecDepth 100000 in
theorem law_ShotWrote (w : World) (s0_0 : Value) (l0_0 : List (List Int)) (s0_1 : Value) (l0_1 : List DWrite) (c1_0 : Int) (c2_0 : Int) (c2_1 : Int) (c2_2 : Int) (s2_3 : Value) (l2_3 : List DPair) (s2_4 : Value) (l2_4 : List DJob) (c2_5 : Int) (c2_6 : Int) (c2_7 : Int) (h0_0 : Nest 0 w s0_0 (nestInt64S l0_0)) (h0_1 : Nest 1 w s0_1 (nestWrite l0_1)) (h2_3 : Ints 2 w s2_3 (flPair l2_3)) (h2_4 : Ints 5 w s2_4 (flJob l2_4)) : Calls Tryz.prog 3 #[.agg #[s0_0, s0_1], .int .i64 c1_0, .agg #[.int .i64 c2_0, .int .i64 c2_1, .int .i64 c2_2, s2_3, s2_4, .int .i64 c2_5, .int .i64 c2_6, .int .i64 c2_7]] w (RetV w (.bool true)) := by
  obtain ⟨a0_0, n0_0, k0_0, rfl⟩ := h0_0.shape
  obtain ⟨a0_1, n0_1, k0_1, rfl⟩ := h0_1.shape
  obtain ⟨a2_3, n2_3, k2_3, rfl⟩ := h2_3.shape
  obtain ⟨a2_4, n2_4, k2_4, rfl⟩ := h2_4.shape
  have h0 : RdDisk w (.agg #[.slice a0_0 n0_0 k0_0, .slice a0_1 n0_1 k0_1]) ⟨l0_0, l0_1⟩ := ⟨_, _, rfl, h0_0, h0_1⟩
  obtain ⟨S, hS0⟩ : ∃ S : DDisk, S = ⟨l0_0, l0_1⟩ := ⟨_, rfl⟩
  rw [← hS0] at h0
  have h1 : RdShot w (.agg #[.int .i64 c2_0, .int .i64 c2_1, .int .i64 c2_2, .slice a2_3 n2_3 k2_3, .slice a2_4 n2_4 k2_4, .int .i64 c2_5, .int .i64 c2_6, .int .i64 c2_7]) ⟨c2_0, ⟨c2_1, c2_2, l2_3, l2_4, ⟨c2_5, c2_6, c2_7⟩⟩⟩ := ⟨_, _, rfl, h2_3, h2_4⟩
  obtain ⟨T, hS1⟩ : ∃ T : DShot, T = ⟨c2_0, ⟨c2_1, c2_2, l2_3, l2_4, ⟨c2_5, c2_6, c2_7⟩⟩⟩ := ⟨_, rfl⟩
  rw [← hS1] at h1
  go_enter Tryz.func3, Tryz.ntmps3
  go_wp2_with fail
  refine (sz_Disk (h0.ext (by repeat' (first | (with_reducible exact Ext.refl _) | (with_reducible assumption) | (with_reducible refine Ext.drewN ?_ _) | (with_reducible refine Ext.drew ?_) | (with_reducible refine Ext.alloc ?_ _) | (with_reducible refine Ext.setCell ?_ ?_ _) | (with_reducible refine Ext.setRow ?_ ?_ _) | (with_reducible exact Nat.le_refl _) | (with_reducible refine Ext.trans ?_ (by assumption)) | omega))) (by omega) (by omega)).mono ?_
  rintro e w1 ⟨v1, rfl, hx1, hv1⟩
  have X1 : Ext w w1 := by repeat' (first | (with_reducible exact Ext.refl _) | (with_reducible assumption) | (with_reducible refine Ext.drewN ?_ _) | (with_reducible refine Ext.drew ?_) | (with_reducible refine Ext.alloc ?_ _) | (with_reducible refine Ext.setCell ?_ ?_ _) | (with_reducible refine Ext.setRow ?_ ?_ _) | (with_reducible exact Nat.le_refl _) | (with_reducible refine Ext.trans ?_ (by assumption)) | omega)
  have Ba : Blk w1 w.heap.size 25 #[.slice a0_0 n0_0 k0_0, .slice a0_1 n0_1 k0_1] := ((Blk.new _ _ _).alloc _).ext hx1
  have Bb : Blk w1 (w.heap.size + 1) 33 #[.int .i64 c2_0, .int .i64 c2_1, .int .i64 c2_2, .slice a2_3 n2_3 k2_3, .slice a2_4 n2_4 k2_4, .int .i64 c2_5, .int .i64 c2_6, .int .i64 c2_7] := (Blk.new2 _ _ _ _).ext hx1
  have Z1 := X1.size; have E1 := X1; clear hx1
  have MBa := Ba.lt; have MBb := Bb.lt
  have CBa := Ba.cell; have LBa := Ba.lt; have CBb := Bb.cell; have LBb := Bb.lt
  rcases hv1 with ⟨rfl, qz⟩ | ⟨rfl, qz⟩
  · go_wp2; go_ret; exact ⟨rfl, by repeat' (first | (with_reducible exact Ext.refl _) | (with_reducible assumption) | (with_reducible refine Ext.drewN ?_ _) | (with_reducible refine Ext.drew ?_) | (with_reducible refine Ext.alloc ?_ _) | (with_reducible refine Ext.setCell ?_ ?_ _) | (with_reducible refine Ext.setRow ?_ ?_ _) | (with_reducible exact Nat.le_refl _) | (with_reducible refine Ext.trans ?_ (by assumption)) | omega)⟩
  have q0_0 : rowsSize (nestInt64S S.Kept) ≤ 1048576 := by omega
  have q0_1 : rowsSize (nestWrite S.Wait) ≤ 1048576 := by omega
  obtain ⟨L2, hL2⟩ : ∃ z : Int, z = 1048576 - ((rowsSize (nestInt64S S.Kept) + rowsSize (nestWrite S.Wait) : Nat) : Int) := ⟨_, rfl⟩
  rw [← hL2]
  have L2a : 0 ≤ L2 := by omega
  have L2b : L2 ≤ 1048576 := by omega
  clear hL2 qz
  have dL2 : decide (L2 < 0) = false := by simp; omega
  go_wp2_with fail
  refine (sz_Shot (h1.ext (by repeat' (first | (with_reducible exact Ext.refl _) | (with_reducible assumption) | (with_reducible refine Ext.drewN ?_ _) | (with_reducible refine Ext.drew ?_) | (with_reducible refine Ext.alloc ?_ _) | (with_reducible refine Ext.setCell ?_ ?_ _) | (with_reducible refine Ext.setRow ?_ ?_ _) | (with_reducible exact Nat.le_refl _) | (with_reducible refine Ext.trans ?_ (by assumption)) | omega))) L2a L2b).mono ?_
  rintro e w2 ⟨v2, rfl, hx2, hv2⟩
  have X2 : Ext w1 w2 := by repeat' (first | (with_reducible exact Ext.refl _) | (with_reducible assumption) | (with_reducible refine Ext.drewN ?_ _) | (with_reducible refine Ext.drew ?_) | (with_reducible refine Ext.alloc ?_ _) | (with_reducible refine Ext.setCell ?_ ?_ _) | (with_reducible refine Ext.setRow ?_ ?_ _) | (with_reducible exact Nat.le_refl _) | (with_reducible refine Ext.trans ?_ (by assumption)) | omega)
  have Z2 := X2.size
  have E2 : Ext w w2 := E1.trans X2
  have Ba := Ba.ext X2
  have Bb := Bb.ext X2
  clear hx2
  clear CBa LBa CBb LBb
  have CBa := Ba.cell; have LBa := Ba.lt
  have CBb := Bb.cell; have LBb := Bb.lt
  rcases hv2 with ⟨rfl, qz⟩ | ⟨rfl, qz⟩
  · go_wp2; go_ret; exact ⟨rfl, E2⟩
  have q1_0 : T.State.Pairs.length ≤ 1048576 := by omega
  have q1_1 : T.State.Jobs.length ≤ 1048576 := by omega
  have dL3 : decide (L2 - ((T.State.Pairs.length + T.State.Jobs.length : Nat) : Int) < 0) = false := by simp; omega
  obtain ⟨L3, hL3⟩ : ∃ z : Int, z = L2 - ((T.State.Pairs.length + T.State.Jobs.length : Nat) : Int) := ⟨_, rfl⟩
  rw [← hL3] at dL3 ⊢
  clear hL3 qz
  have nx := nDisk_le2 S q0_0 q0_1
  have ny := numShot_le (s := T) q1_0 q1_1
  have nb := shD_small S c1_0 T
  clear hS0 hS1 h0_0 h0_1 h2_3 h2_4
  go_wp2_with fail
  have pa0 : w2.cell? ⟨w.heap.size, 0, none⟩ = some (.slice a0_0 n0_0 k0_0) := Ba.cell 0
  have pa1 : w2.cell? ⟨w.heap.size, 1, none⟩ = some (.slice a0_1 n0_1 k0_1) := Ba.cell 1
  have pb0 : w2.cell? ⟨(w.heap.size + 1), 0, none⟩ = some (.int .i64 c2_0) := Bb.cell 0
  have pb1 : w2.cell? ⟨(w.heap.size + 1), 1, none⟩ = some (.int .i64 c2_1) := Bb.cell 1
  have pb2 : w2.cell? ⟨(w.heap.size + 1), 2, none⟩ = some (.int .i64 c2_2) := Bb.cell 2
  have pb3 : w2.cell? ⟨(w.heap.size + 1), 3, none⟩ = some (.slice a2_3 n2_3 k2_3) := Bb.cell 3
  have pb4 : w2.cell? ⟨(w.heap.size + 1), 4, none⟩ = some (.slice a2_4 n2_4 k2_4) := Bb.cell 4
  have pb5 : w2.cell? ⟨(w.heap.size + 1), 5, none⟩ = some (.int .i64 c2_5) := Bb.cell 5
  have pb6 : w2.cell? ⟨(w.heap.size + 1), 6, none⟩ = some (.int .i64 c2_6) := Bb.cell 6
  have pb7 : w2.cell? ⟨(w.heap.size + 1), 7, none⟩ = some (.int .i64 c2_7) := Bb.cell 7
  clear CBa LBa CBb LBb
  go_cut [8, 9] (fun sx bx0 wx => ∃ aw0 nw0 kw0 aw1 nw1 kw1, ∃ gg : Nat, sx = .pointer (some ⟨gg, 0, none⟩) ∧ bx0 = .bool (shOk S c1_0 T) ∧ Ext w2 wx ∧ w2.heap.size ≤ gg ∧ Blk wx gg 38 #[.slice aw0 nw0 kw0, .slice aw1 nw1 kw1] ∧ ∃ F, OwDisk w2.heap.size wx (.agg #[.slice aw0 nw0 kw0, .slice aw1 nw1 kw1]) (shD S c1_0 T) F ∧ (∀ k, k ∈ F → k < wx.heap.size ∧ k ≠ gg))
  case first =>
    refine wp_region_held_drew (S := (fun w' => w'.cell? ⟨w.heap.size, 0, none⟩ = some (.slice a0_0 n0_0 k0_0) ∧ w'.cell? ⟨w.heap.size, 1, none⟩ = some (.slice a0_1 n0_1 k0_1) ∧ w'.cell? ⟨(w.heap.size + 1), 0, none⟩ = some (.int .i64 c2_0) ∧ w'.cell? ⟨(w.heap.size + 1), 1, none⟩ = some (.int .i64 c2_1) ∧ w'.cell? ⟨(w.heap.size + 1), 2, none⟩ = some (.int .i64 c2_2) ∧ w'.cell? ⟨(w.heap.size + 1), 3, none⟩ = some (.slice a2_3 n2_3 k2_3) ∧ w'.cell? ⟨(w.heap.size + 1), 4, none⟩ = some (.slice a2_4 n2_4 k2_4) ∧ w'.cell? ⟨(w.heap.size + 1), 5, none⟩ = some (.int .i64 c2_5) ∧ w'.cell? ⟨(w.heap.size + 1), 6, none⟩ = some (.int .i64 c2_6) ∧ w'.cell? ⟨(w.heap.size + 1), 7, none⟩ = some (.int .i64 c2_7))) (by kernel_rfl) (by (try dsimp only); first | (refine ⟨Ext.cell (w := w2) ?_ pa0, Ext.cell (w := w2) ?_ pa1, Ext.cell (w := w2) ?_ pb0, Ext.cell (w := w2) ?_ pb1, Ext.cell (w := w2) ?_ pb2, Ext.cell (w := w2) ?_ pb3, Ext.cell (w := w2) ?_ pb4, Ext.cell (w := w2) ?_ pb5, Ext.cell (w := w2) ?_ pb6, Ext.cell (w := w2) ?_ pb7⟩ <;> (repeat' (first | (with_reducible exact Ext.refl _) | (with_reducible assumption) | (with_reducible refine Ext.drewN ?_ _) | (with_reducible refine Ext.drew ?_) | (with_reducible refine Ext.alloc ?_ _) | (with_reducible refine Ext.setCell ?_ ?_ _) | (with_reducible refine Ext.setRow ?_ ?_ _) | (with_reducible exact Nat.le_refl _) | (with_reducible refine Ext.trans ?_ (by assumption)) | omega)); done)) (fun hHeld => ?_)
    refine wpAnyH_take (i := 0) (v := ?_) rfl (by kernel_rfl) (by kernel_rfl) (by kernel_rfl) (fun _ _ _ h => h) (Or.inl ⟨by rfl, ?_⟩) (by assumption) ?_
    rotate_left
    focus (intro w hSw; (try dsimp only at hSw); go_simp <;> with_reducible rfl)
    (try simp only [List.getElem_toArray, List.getElem_cons_zero, List.getElem_cons_succ, Act.put, List.setIfInBounds_toArray, List.set_cons_zero, List.set_cons_succ])
    refine wpAnyH_take (i := 2) (v := ?_) rfl (by kernel_rfl) (by kernel_rfl) (by kernel_rfl) (fun _ _ _ h => h) (Or.inl ⟨by rfl, ?_⟩) (by assumption) ?_
    rotate_left
    focus (intro w hSw; (try dsimp only at hSw); go_simp <;> with_reducible rfl)
    (try simp only [List.getElem_toArray, List.getElem_cons_zero, List.getElem_cons_succ, Act.put, List.setIfInBounds_toArray, List.set_cons_zero, List.set_cons_succ])
    refine wpAnyH_take (i := 3) (v := ?_) rfl (by kernel_rfl) (by kernel_rfl) (by kernel_rfl) (fun _ _ _ h => h) (Or.inl ⟨by rfl, ?_⟩) (by assumption) ?_
    rotate_left
    focus (intro w hSw; (try dsimp only at hSw); go_simp <;> with_reducible rfl)
    (try simp only [List.getElem_toArray, List.getElem_cons_zero, List.getElem_cons_succ, Act.put, List.setIfInBounds_toArray, List.set_cons_zero, List.set_cons_succ])
    refine wpAnyH_ready (rs := [1, 9]) (by kernel_rfl) (by simp) ?_
    refine AllReadyH.cons rfl (fun Kz hKz => ?_) (AllReadyH.cons rfl (fun Kz hKz => ?_) AllReadyH.nil)
    · (try simp only [List.getElem_toArray, List.getElem_cons_zero, List.getElem_cons_succ])
      go_simp
      (go_at_call 10; refine (to_Disk (h0.ext (Ext.trans E2 (by repeat' (first | (with_reducible exact Ext.refl _) | (with_reducible assumption) | (with_reducible refine Ext.drewN ?_ _) | (with_reducible refine Ext.drew ?_) | (with_reducible refine Ext.alloc ?_ _) | (with_reducible refine Ext.setCell ?_ ?_ _) | (with_reducible refine Ext.setRow ?_ ?_ _) | (with_reducible exact Nat.le_refl _) | (with_reducible refine Ext.trans ?_ (by assumption)) | omega)))) q0_0 q0_1).mono ?_; rintro e wa ⟨_, rfl, hxwa, F0, g0⟩; obtain ⟨awp0, nwp0, kwp0, awp1, nwp1, kwp1, rfl⟩ := g0.rd.shape; have hzwa := hxwa.size; (try simp only [size_drew, World.size_alloc] at hzwa); have XA : Ext w2 wa := Ext.trans (by repeat' (first | (with_reducible exact Ext.refl _) | (with_reducible assumption) | (with_reducible refine Ext.drewN ?_ _) | (with_reducible refine Ext.drew ?_) | (with_reducible refine Ext.alloc ?_ _) | (with_reducible refine Ext.setCell ?_ ?_ _) | (with_reducible refine Ext.setRow ?_ ?_ _) | (with_reducible exact Nat.le_refl _) | (with_reducible refine Ext.trans ?_ (by assumption)) | omega)) hxwa; (first | (have KU := Blk.ext KU hxwa; have CU := KU.cell; have FU := KU.frozen; have LU := KU.lt) | (have KU : Blk wa w2.heap.size 38 #[.slice none 0 0, .slice none 0 0] := Blk.ext (Blk.new w2.drew _ _) hxwa; have CU := KU.cell; have FU := KU.frozen; have LU := KU.lt) | skip))
      refine hKz.out _ _ (by (try dsimp only); first | (refine ⟨Ext.cell (w := w2) ?_ pa0, Ext.cell (w := w2) ?_ pa1, Ext.cell (w := w2) ?_ pb0, Ext.cell (w := w2) ?_ pb1, Ext.cell (w := w2) ?_ pb2, Ext.cell (w := w2) ?_ pb3, Ext.cell (w := w2) ?_ pb4, Ext.cell (w := w2) ?_ pb5, Ext.cell (w := w2) ?_ pb6, Ext.cell (w := w2) ?_ pb7⟩ <;> (repeat' (first | (with_reducible exact Ext.refl _) | (with_reducible assumption) | (with_reducible refine Ext.drewN ?_ _) | (with_reducible refine Ext.drew ?_) | (with_reducible refine Ext.alloc ?_ _) | (with_reducible refine Ext.setCell ?_ ?_ _) | (with_reducible refine Ext.setRow ?_ ?_ _) | (with_reducible exact Nat.le_refl _) | (with_reducible refine Ext.trans ?_ (by assumption)) | omega)); done)) (fun hHeld => ?_)
      clear hKz Kz
      (try simp only [List.getElem_toArray, List.getElem_cons_zero, List.getElem_cons_succ, Act.put, List.setIfInBounds_toArray, List.set_cons_zero, List.set_cons_succ])
      refine wpAnyH_ready (rs := [4, 9]) (by kernel_rfl) (by simp) ?_
      refine AllReadyH.cons rfl (fun Kz hKz => ?_) (AllReadyH.cons rfl (fun Kz hKz => ?_) AllReadyH.nil)
      · (try simp only [List.getElem_toArray, List.getElem_cons_zero, List.getElem_cons_succ])
        go_simp
        (go_at_call 11; refine (to_Shot (h1.ext (Ext.trans E2 (by repeat' (first | (with_reducible exact Ext.refl _) | (with_reducible assumption) | (with_reducible refine Ext.drewN ?_ _) | (with_reducible refine Ext.drew ?_) | (with_reducible refine Ext.alloc ?_ _) | (with_reducible refine Ext.setCell ?_ ?_ _) | (with_reducible refine Ext.setRow ?_ ?_ _) | (with_reducible exact Nat.le_refl _) | (with_reducible refine Ext.trans ?_ (by assumption)) | omega)))) q1_0 q1_1).mono ?_; rintro e wb ⟨_, rfl, hxwb, F1, g1⟩; obtain ⟨awq3, nwq3, kwq3, awq4, nwq4, kwq4, rfl⟩ := g1.rd.shape; have hzwb := hxwb.size; (try simp only [size_drew, World.size_alloc] at hzwb); have XAB : Ext wa wb := Ext.trans (by repeat' (first | (with_reducible exact Ext.refl _) | (with_reducible assumption) | (with_reducible refine Ext.drewN ?_ _) | (with_reducible refine Ext.drew ?_) | (with_reducible refine Ext.alloc ?_ _) | (with_reducible refine Ext.setCell ?_ ?_ _) | (with_reducible refine Ext.setRow ?_ ?_ _) | (with_reducible exact Nat.le_refl _) | (with_reducible refine Ext.trans ?_ (by assumption)) | omega)) hxwb; have XB : Ext w2 wb := XA.trans XAB; (first | (have KU := Blk.ext KU hxwb; have CU := KU.cell; have FU := KU.frozen; have LU := KU.lt) | (have KU : Blk wb wa.heap.size 38 #[.slice none 0 0, .slice none 0 0] := Blk.ext (Blk.new wa _ _) hxwb; have CU := KU.cell; have FU := KU.frozen; have LU := KU.lt) | skip))
        refine hKz.out _ _ (by (try dsimp only); first | (refine ⟨Ext.cell (w := w2) ?_ pa0, Ext.cell (w := w2) ?_ pa1, Ext.cell (w := w2) ?_ pb0, Ext.cell (w := w2) ?_ pb1, Ext.cell (w := w2) ?_ pb2, Ext.cell (w := w2) ?_ pb3, Ext.cell (w := w2) ?_ pb4, Ext.cell (w := w2) ?_ pb5, Ext.cell (w := w2) ?_ pb6, Ext.cell (w := w2) ?_ pb7⟩ <;> (repeat' (first | (with_reducible exact Ext.refl _) | (with_reducible assumption) | (with_reducible refine Ext.drewN ?_ _) | (with_reducible refine Ext.drew ?_) | (with_reducible refine Ext.alloc ?_ _) | (with_reducible refine Ext.setCell ?_ ?_ _) | (with_reducible refine Ext.setRow ?_ ?_ _) | (with_reducible exact Nat.le_refl _) | (with_reducible refine Ext.trans ?_ (by assumption)) | omega)); done)) (fun hHeld => ?_)
        clear hKz Kz
        (try simp only [List.getElem_toArray, List.getElem_cons_zero, List.getElem_cons_succ, Act.put, List.setIfInBounds_toArray, List.set_cons_zero, List.set_cons_succ])
        refine wpAnyH_ready (rs := [5, 9]) (by kernel_rfl) (by simp) ?_
        refine AllReadyH.cons rfl (fun Kz hKz => ?_) (AllReadyH.cons rfl (fun Kz hKz => ?_) AllReadyH.nil)
        · (try simp only [List.getElem_toArray, List.getElem_cons_zero, List.getElem_cons_succ])
          go_simp
          (go_at_call 9; refine (sShotWrote_k ((g0.rd).ext (Ext.trans XAB (by repeat' (first | (with_reducible exact Ext.refl _) | (with_reducible assumption) | (with_reducible refine Ext.drewN ?_ _) | (with_reducible refine Ext.drew ?_) | (with_reducible refine Ext.alloc ?_ _) | (with_reducible refine Ext.setCell ?_ ?_ _) | (with_reducible refine Ext.setRow ?_ ?_ _) | (with_reducible exact Nat.le_refl _) | (with_reducible refine Ext.trans ?_ (by assumption)) | omega)))) ((g1.rd).ext (by repeat' (first | (with_reducible exact Ext.refl _) | (with_reducible assumption) | (with_reducible refine Ext.drewN ?_ _) | (with_reducible refine Ext.drew ?_) | (with_reducible refine Ext.alloc ?_ _) | (with_reducible refine Ext.setCell ?_ ?_ _) | (with_reducible refine Ext.setRow ?_ ?_ _) | (with_reducible exact Nat.le_refl _) | (with_reducible refine Ext.trans ?_ (by assumption)) | omega))) c1_0).mono ?_; rintro e wc ⟨_, rfl, hxwc, vr, rfl, Fr, gr⟩; obtain ⟨aw0, nw0, kw0, aw1, nw1, kw1, rfl⟩ := gr.rd.shape; have hzwc := hxwc.size; (try simp only [size_drew, World.size_alloc] at hzwc); have XBC : Ext wb wc := Ext.trans (by repeat' (first | (with_reducible exact Ext.refl _) | (with_reducible assumption) | (with_reducible refine Ext.drewN ?_ _) | (with_reducible refine Ext.drew ?_) | (with_reducible refine Ext.alloc ?_ _) | (with_reducible refine Ext.setCell ?_ ?_ _) | (with_reducible refine Ext.setRow ?_ ?_ _) | (with_reducible exact Nat.le_refl _) | (with_reducible refine Ext.trans ?_ (by assumption)) | omega)) hxwc; have XC : Ext w2 wc := XB.trans XBC; have lr := gr.low; (try simp only [size_drew, World.size_alloc] at lr); (first | (have KU := Blk.ext KU hxwc; have CU := KU.cell; have FU := KU.frozen; have LU := KU.lt) | (have KU : Blk wc wb.heap.size 38 #[.slice none 0 0, .slice none 0 0] := Blk.ext (Blk.new wb _ _) hxwc; have CU := KU.cell; have FU := KU.frozen; have LU := KU.lt) | skip))
          refine hKz.out _ _ (by (try dsimp only); first | (refine ⟨Ext.cell (w := w2) ?_ pa0, Ext.cell (w := w2) ?_ pa1, Ext.cell (w := w2) ?_ pb0, Ext.cell (w := w2) ?_ pb1, Ext.cell (w := w2) ?_ pb2, Ext.cell (w := w2) ?_ pb3, Ext.cell (w := w2) ?_ pb4, Ext.cell (w := w2) ?_ pb5, Ext.cell (w := w2) ?_ pb6, Ext.cell (w := w2) ?_ pb7⟩ <;> (repeat' (first | (with_reducible exact Ext.refl _) | (with_reducible assumption) | (with_reducible refine Ext.drewN ?_ _) | (with_reducible refine Ext.drew ?_) | (with_reducible refine Ext.alloc ?_ _) | (with_reducible refine Ext.setCell ?_ ?_ _) | (with_reducible refine Ext.setRow ?_ ?_ _) | (with_reducible exact Nat.le_refl _) | (with_reducible refine Ext.trans ?_ (by assumption)) | omega)); done)) (fun hHeld => ?_)
          clear hKz Kz
          (try simp only [List.getElem_toArray, List.getElem_cons_zero, List.getElem_cons_succ, Act.put, List.setIfInBounds_toArray, List.set_cons_zero, List.set_cons_succ])
          refine wpAnyH_take (i := 6) (v := ?_) rfl (by kernel_rfl) (by kernel_rfl) (by kernel_rfl) (fun _ _ _ h => h) (Or.inl ⟨by rfl, ?_⟩) (by assumption) ?_
          rotate_left
          focus (intro w hSw; (try dsimp only at hSw); go_simp <;> with_reducible rfl)
          (try simp only [List.getElem_toArray, List.getElem_cons_zero, List.getElem_cons_succ, Act.put, List.setIfInBounds_toArray, List.set_cons_zero, List.set_cons_succ])
          refine wpAnyH_take (i := 7) (v := ?_) rfl (by kernel_rfl) (by kernel_rfl) (by kernel_rfl) (fun _ _ _ h => h) (Or.inl ⟨by rfl, ?_⟩) (by assumption) ?_
          rotate_left
          focus (intro w hSw; (try dsimp only at hSw); go_simp <;> with_reducible rfl)
          (try simp only [List.getElem_toArray, List.getElem_cons_zero, List.getElem_cons_succ, Act.put, List.setIfInBounds_toArray, List.set_cons_zero, List.set_cons_succ])
          refine wpAnyH_take (i := 8) (v := ?_) rfl (by kernel_rfl) (by kernel_rfl) (by kernel_rfl) (fun _ _ _ h => h) (Or.inl ⟨by rfl, ?_⟩) (by assumption) ?_
          rotate_left
          focus (intro w hSw; (try dsimp only at hSw); go_simp <;> with_reducible rfl)
          (try simp only [List.getElem_toArray, List.getElem_cons_zero, List.getElem_cons_succ, Act.put, List.setIfInBounds_toArray, List.set_cons_zero, List.set_cons_succ])
          refine wpAnyH_ready (rs := [9]) (by kernel_rfl) (by simp) ?_
          refine AllReadyH.cons rfl (fun Kz hKz => ?_) AllReadyH.nil
          (try simp only [List.getElem_toArray, List.getElem_cons_zero, List.getElem_cons_succ])
          go_simp
          refine hKz.out _ _ (by (try dsimp only); first | (refine ⟨Ext.cell (w := w2) ?_ pa0, Ext.cell (w := w2) ?_ pa1, Ext.cell (w := w2) ?_ pb0, Ext.cell (w := w2) ?_ pb1, Ext.cell (w := w2) ?_ pb2, Ext.cell (w := w2) ?_ pb3, Ext.cell (w := w2) ?_ pb4, Ext.cell (w := w2) ?_ pb5, Ext.cell (w := w2) ?_ pb6, Ext.cell (w := w2) ?_ pb7⟩ <;> (repeat' (first | (with_reducible exact Ext.refl _) | (with_reducible assumption) | (with_reducible refine Ext.drewN ?_ _) | (with_reducible refine Ext.drew ?_) | (with_reducible refine Ext.alloc ?_ _) | (with_reducible refine Ext.setCell ?_ ?_ _) | (with_reducible refine Ext.setRow ?_ ?_ _) | (with_reducible exact Nat.le_refl _) | (with_reducible refine Ext.trans ?_ (by assumption)) | omega)); done)) (fun hHeld => ?_)
          clear hKz Kz
          (try simp only [List.getElem_toArray, List.getElem_cons_zero, List.getElem_cons_succ, Act.put, List.setIfInBounds_toArray, List.set_cons_zero, List.set_cons_succ])
          refine wpAnyH_ready (rs := [10]) (by kernel_rfl) (by simp) ?_
          refine AllReadyH.cons rfl (fun Kz hKz => ?_) AllReadyH.nil
          (try simp only [List.getElem_toArray, List.getElem_cons_zero, List.getElem_cons_succ])
          go_simp
          refine hKz.out _ _ (by (try dsimp only); first | (refine ⟨Ext.cell (w := w2) ?_ pa0, Ext.cell (w := w2) ?_ pa1, Ext.cell (w := w2) ?_ pb0, Ext.cell (w := w2) ?_ pb1, Ext.cell (w := w2) ?_ pb2, Ext.cell (w := w2) ?_ pb3, Ext.cell (w := w2) ?_ pb4, Ext.cell (w := w2) ?_ pb5, Ext.cell (w := w2) ?_ pb6, Ext.cell (w := w2) ?_ pb7⟩ <;> (repeat' (first | (with_reducible exact Ext.refl _) | (with_reducible assumption) | (with_reducible refine Ext.drewN ?_ _) | (with_reducible refine Ext.drew ?_) | (with_reducible refine Ext.alloc ?_ _) | (with_reducible refine Ext.setCell ?_ ?_ _) | (with_reducible refine Ext.setRow ?_ ?_ _) | (with_reducible exact Nat.le_refl _) | (with_reducible refine Ext.trans ?_ (by assumption)) | omega)); done)) (fun hHeld => ?_)
          clear hKz Kz
          (try simp only [List.getElem_toArray, List.getElem_cons_zero, List.getElem_cons_succ, Act.put, List.setIfInBounds_toArray, List.set_cons_zero, List.set_cons_succ])
          refine wpAnyH_take (i := 11) (v := ?_) rfl (by kernel_rfl) (by kernel_rfl) (by kernel_rfl) (fun _ _ _ h => h) (Or.inl ⟨by rfl, ?_⟩) (by assumption) ?_
          rotate_left
          focus (intro w hSw; (try dsimp only at hSw); go_simp <;> with_reducible rfl)
          (try simp only [List.getElem_toArray, List.getElem_cons_zero, List.getElem_cons_succ, Act.put, List.setIfInBounds_toArray, List.set_cons_zero, List.set_cons_succ])
          refine wpAnyH_done (by kernel_rfl) ?_ _
          go_wp2_with fail
          go_meet
          case rel =>
            (try simp only [World.size_alloc, size_drew])
            first
              | (exact ⟨_, _, _, _, _, _, _, rfl, (by first | rfl | trivial), XC.alloc _, XC.size, Blk.new _ _ _, Fr, (gr.ext ((Ext.refl _).alloc _)).keep (Chg.refl _ _) (by first | omega | (simp only [World.size_alloc, size_drew]; omega)), fun k hk => ⟨by have := lr k hk; (try simp only [World.size_alloc]); omega, by have := lr k hk; omega⟩⟩)
              | (exact ⟨_, _, _, _, _, _, w2.heap.size, rfl, (by first | rfl | trivial), (Ext.setCell (Ext.setCell XC (by omega) _) (by omega) _), by omega, by (have := (Blk.set_ (Blk.set_ KU 0 (.slice aw0 nw0 kw0)) 1 (.slice aw1 nw1 kw1)); simpa using this), Fr, OwDisk.keep ((gr.box KU 0 _).box (Blk.set_ KU 0 _) 1 _) (Chg.refl _ _) (by first | omega | (simp only [World.size_alloc, size_drew]; omega)), fun k hk => ⟨by have := lr k hk; (try simp only [World.size_setCell]); omega, by have := lr k hk; omega⟩⟩)
              | (exact ⟨_, _, _, _, _, _, wa.heap.size, rfl, (by first | rfl | trivial), (Ext.setCell (Ext.setCell XC (by omega) _) (by omega) _), by omega, by (have := (Blk.set_ (Blk.set_ KU 0 (.slice aw0 nw0 kw0)) 1 (.slice aw1 nw1 kw1)); simpa using this), Fr, OwDisk.keep ((gr.box KU 0 _).box (Blk.set_ KU 0 _) 1 _) (Chg.refl _ _) (by first | omega | (simp only [World.size_alloc, size_drew]; omega)), fun k hk => ⟨by have := lr k hk; (try simp only [World.size_setCell]); omega, by have := lr k hk; omega⟩⟩)
              | (exact ⟨_, _, _, _, _, _, wb.heap.size, rfl, (by first | rfl | trivial), (Ext.setCell (Ext.setCell XC (by omega) _) (by omega) _), by omega, by (have := (Blk.set_ (Blk.set_ KU 0 (.slice aw0 nw0 kw0)) 1 (.slice aw1 nw1 kw1)); simpa using this), Fr, OwDisk.keep ((gr.box KU 0 _).box (Blk.set_ KU 0 _) 1 _) (Chg.refl _ _) (by first | omega | (simp only [World.size_alloc, size_drew]; omega)), fun k hk => ⟨by have := lr k hk; (try simp only [World.size_setCell]); omega, by have := lr k hk; omega⟩⟩)
        · (try simp only [List.getElem_toArray, List.getElem_cons_zero, List.getElem_cons_succ])
          go_simp
          refine hKz.out _ _ (by (try dsimp only); first | (refine ⟨Ext.cell (w := w2) ?_ pa0, Ext.cell (w := w2) ?_ pa1, Ext.cell (w := w2) ?_ pb0, Ext.cell (w := w2) ?_ pb1, Ext.cell (w := w2) ?_ pb2, Ext.cell (w := w2) ?_ pb3, Ext.cell (w := w2) ?_ pb4, Ext.cell (w := w2) ?_ pb5, Ext.cell (w := w2) ?_ pb6, Ext.cell (w := w2) ?_ pb7⟩ <;> (repeat' (first | (with_reducible exact Ext.refl _) | (with_reducible assumption) | (with_reducible refine Ext.drewN ?_ _) | (with_reducible refine Ext.drew ?_) | (with_reducible refine Ext.alloc ?_ _) | (with_reducible refine Ext.setCell ?_ ?_ _) | (with_reducible refine Ext.setRow ?_ ?_ _) | (with_reducible exact Nat.le_refl _) | (with_reducible refine Ext.trans ?_ (by assumption)) | omega)); done)) (fun hHeld => ?_)
          clear hKz Kz
          (try simp only [List.getElem_toArray, List.getElem_cons_zero, List.getElem_cons_succ, Act.put, List.setIfInBounds_toArray, List.set_cons_zero, List.set_cons_succ])
          refine wpAnyH_ready (rs := [5]) (by kernel_rfl) (by simp) ?_
          refine AllReadyH.cons rfl (fun Kz hKz => ?_) AllReadyH.nil
          (try simp only [List.getElem_toArray, List.getElem_cons_zero, List.getElem_cons_succ])
          go_simp
          (go_at_call 9; refine (sShotWrote_k ((g0.rd).ext (Ext.trans XAB (by repeat' (first | (with_reducible exact Ext.refl _) | (with_reducible assumption) | (with_reducible refine Ext.drewN ?_ _) | (with_reducible refine Ext.drew ?_) | (with_reducible refine Ext.alloc ?_ _) | (with_reducible refine Ext.setCell ?_ ?_ _) | (with_reducible refine Ext.setRow ?_ ?_ _) | (with_reducible exact Nat.le_refl _) | (with_reducible refine Ext.trans ?_ (by assumption)) | omega)))) ((g1.rd).ext (by repeat' (first | (with_reducible exact Ext.refl _) | (with_reducible assumption) | (with_reducible refine Ext.drewN ?_ _) | (with_reducible refine Ext.drew ?_) | (with_reducible refine Ext.alloc ?_ _) | (with_reducible refine Ext.setCell ?_ ?_ _) | (with_reducible refine Ext.setRow ?_ ?_ _) | (with_reducible exact Nat.le_refl _) | (with_reducible refine Ext.trans ?_ (by assumption)) | omega))) c1_0).mono ?_; rintro e wc ⟨_, rfl, hxwc, vr, rfl, Fr, gr⟩; obtain ⟨aw0, nw0, kw0, aw1, nw1, kw1, rfl⟩ := gr.rd.shape; have hzwc := hxwc.size; (try simp only [size_drew, World.size_alloc] at hzwc); have XBC : Ext wb wc := Ext.trans (by repeat' (first | (with_reducible exact Ext.refl _) | (with_reducible assumption) | (with_reducible refine Ext.drewN ?_ _) | (with_reducible refine Ext.drew ?_) | (with_reducible refine Ext.alloc ?_ _) | (with_reducible refine Ext.setCell ?_ ?_ _) | (with_reducible refine Ext.setRow ?_ ?_ _) | (with_reducible exact Nat.le_refl _) | (with_reducible refine Ext.trans ?_ (by assumption)) | omega)) hxwc; have XC : Ext w2 wc := XB.trans XBC; have lr := gr.low; (try simp only [size_drew, World.size_alloc] at lr); (first | (have KU := Blk.ext KU hxwc; have CU := KU.cell; have FU := KU.frozen; have LU := KU.lt) | (have KU : Blk wc wb.heap.size 38 #[.slice none 0 0, .slice none 0 0] := Blk.ext (Blk.new wb _ _) hxwc; have CU := KU.cell; have FU := KU.frozen; have LU := KU.lt) | skip))
          refine hKz.out _ _ (by (try dsimp only); first | (refine ⟨Ext.cell (w := w2) ?_ pa0, Ext.cell (w := w2) ?_ pa1, Ext.cell (w := w2) ?_ pb0, Ext.cell (w := w2) ?_ pb1, Ext.cell (w := w2) ?_ pb2, Ext.cell (w := w2) ?_ pb3, Ext.cell (w := w2) ?_ pb4, Ext.cell (w := w2) ?_ pb5, Ext.cell (w := w2) ?_ pb6, Ext.cell (w := w2) ?_ pb7⟩ <;> (repeat' (first | (with_reducible exact Ext.refl _) | (with_reducible assumption) | (with_reducible refine Ext.drewN ?_ _) | (with_reducible refine Ext.drew ?_) | (with_reducible refine Ext.alloc ?_ _) | (with_reducible refine Ext.setCell ?_ ?_ _) | (with_reducible refine Ext.setRow ?_ ?_ _) | (with_reducible exact Nat.le_refl _) | (with_reducible refine Ext.trans ?_ (by assumption)) | omega)); done)) (fun hHeld => ?_)
          clear hKz Kz
          (try simp only [List.getElem_toArray, List.getElem_cons_zero, List.getElem_cons_succ, Act.put, List.setIfInBounds_toArray, List.set_cons_zero, List.set_cons_succ])
          refine wpAnyH_take (i := 6) (v := ?_) rfl (by kernel_rfl) (by kernel_rfl) (by kernel_rfl) (fun _ _ _ h => h) (Or.inl ⟨by rfl, ?_⟩) (by assumption) ?_
          rotate_left
          focus (intro w hSw; (try dsimp only at hSw); go_simp <;> with_reducible rfl)
          (try simp only [List.getElem_toArray, List.getElem_cons_zero, List.getElem_cons_succ, Act.put, List.setIfInBounds_toArray, List.set_cons_zero, List.set_cons_succ])
          refine wpAnyH_take (i := 7) (v := ?_) rfl (by kernel_rfl) (by kernel_rfl) (by kernel_rfl) (fun _ _ _ h => h) (Or.inl ⟨by rfl, ?_⟩) (by assumption) ?_
          rotate_left
          focus (intro w hSw; (try dsimp only at hSw); go_simp <;> with_reducible rfl)
          (try simp only [List.getElem_toArray, List.getElem_cons_zero, List.getElem_cons_succ, Act.put, List.setIfInBounds_toArray, List.set_cons_zero, List.set_cons_succ])
          refine wpAnyH_take (i := 8) (v := ?_) rfl (by kernel_rfl) (by kernel_rfl) (by kernel_rfl) (fun _ _ _ h => h) (Or.inl ⟨by rfl, ?_⟩) (by assumption) ?_
          rotate_left
          focus (intro w hSw; (try dsimp only at hSw); go_simp <;> with_reducible rfl)
          (try simp only [List.getElem_toArray, List.getElem_cons_zero, List.getElem_cons_succ, Act.put, List.setIfInBounds_toArray, List.set_cons_zero, List.set_cons_succ])
          refine wpAnyH_ready (rs := [10]) (by kernel_rfl) (by simp) ?_
          refine AllReadyH.cons rfl (fun Kz hKz => ?_) AllReadyH.nil
          (try simp only [List.getElem_toArray, List.getElem_cons_zero, List.getElem_cons_succ])
          go_simp
          refine hKz.out _ _ (by (try dsimp only); first | (refine ⟨Ext.cell (w := w2) ?_ pa0, Ext.cell (w := w2) ?_ pa1, Ext.cell (w := w2) ?_ pb0, Ext.cell (w := w2) ?_ pb1, Ext.cell (w := w2) ?_ pb2, Ext.cell (w := w2) ?_ pb3, Ext.cell (w := w2) ?_ pb4, Ext.cell (w := w2) ?_ pb5, Ext.cell (w := w2) ?_ pb6, Ext.cell (w := w2) ?_ pb7⟩ <;> (repeat' (first | (with_reducible exact Ext.refl _) | (with_reducible assumption) | (with_reducible refine Ext.drewN ?_ _) | (with_reducible refine Ext.drew ?_) | (with_reducible refine Ext.alloc ?_ _) | (with_reducible refine Ext.setCell ?_ ?_ _) | (with_reducible refine Ext.setRow ?_ ?_ _) | (with_reducible exact Nat.le_refl _) | (with_reducible refine Ext.trans ?_ (by assumption)) | omega)); done)) (fun hHeld => ?_)
          clear hKz Kz
          (try simp only [List.getElem_toArray, List.getElem_cons_zero, List.getElem_cons_succ, Act.put, List.setIfInBounds_toArray, List.set_cons_zero, List.set_cons_succ])
          refine wpAnyH_take (i := 11) (v := ?_) rfl (by kernel_rfl) (by kernel_rfl) (by kernel_rfl) (fun _ _ _ h => h) (Or.inl ⟨by rfl, ?_⟩) (by assumption) ?_
          rotate_left
          focus (intro w hSw; (try dsimp only at hSw); go_simp <;> with_reducible rfl)
          (try simp only [List.getElem_toArray, List.getElem_cons_zero, List.getElem_cons_succ, Act.put, List.setIfInBounds_toArray, List.set_cons_zero, List.set_cons_succ])
          refine wpAnyH_done (by kernel_rfl) ?_ _
          go_wp2_with fail
          go_meet
          case rel =>
            (try simp only [World.size_alloc, size_drew])
            first
              | (exact ⟨_, _, _, _, _, _, _, rfl, (by first | rfl | trivial), XC.alloc _, XC.size, Blk.new _ _ _, Fr, (gr.ext ((Ext.refl _).alloc _)).keep (Chg.refl _ _) (by first | omega | (simp only [World.size_alloc, size_drew]; omega)), fun k hk => ⟨by have := lr k hk; (try simp only [World.size_alloc]); omega, by have := lr k hk; omega⟩⟩)
              | (exact ⟨_, _, _, _, _, _, w2.heap.size, rfl, (by first | rfl | trivial), (Ext.setCell (Ext.setCell XC (by omega) _) (by omega) _), by omega, by (have := (Blk.set_ (Blk.set_ KU 0 (.slice aw0 nw0 kw0)) 1 (.slice aw1 nw1 kw1)); simpa using this), Fr, OwDisk.keep ((gr.box KU 0 _).box (Blk.set_ KU 0 _) 1 _) (Chg.refl _ _) (by first | omega | (simp only [World.size_alloc, size_drew]; omega)), fun k hk => ⟨by have := lr k hk; (try simp only [World.size_setCell]); omega, by have := lr k hk; omega⟩⟩)
              | (exact ⟨_, _, _, _, _, _, wa.heap.size, rfl, (by first | rfl | trivial), (Ext.setCell (Ext.setCell XC (by omega) _) (by omega) _), by omega, by (have := (Blk.set_ (Blk.set_ KU 0 (.slice aw0 nw0 kw0)) 1 (.slice aw1 nw1 kw1)); simpa using this), Fr, OwDisk.keep ((gr.box KU 0 _).box (Blk.set_ KU 0 _) 1 _) (Chg.refl _ _) (by first | omega | (simp only [World.size_alloc, size_drew]; omega)), fun k hk => ⟨by have := lr k hk; (try simp only [World.size_setCell]); omega, by have := lr k hk; omega⟩⟩)
              | (exact ⟨_, _, _, _, _, _, wb.heap.size, rfl, (by first | rfl | trivial), (Ext.setCell (Ext.setCell XC (by omega) _) (by omega) _), by omega, by (have := (Blk.set_ (Blk.set_ KU 0 (.slice aw0 nw0 kw0)) 1 (.slice aw1 nw1 kw1)); simpa using this), Fr, OwDisk.keep ((gr.box KU 0 _).box (Blk.set_ KU 0 _) 1 _) (Chg.refl _ _) (by first | omega | (simp only [World.size_alloc, size_drew]; omega)), fun k hk => ⟨by have := lr k hk; (try simp only [World.size_setCell]); omega, by have := lr k hk; omega⟩⟩)
      · (try simp only [List.getElem_toArray, List.getElem_cons_zero, List.getElem_cons_succ])
        go_simp
        refine hKz.out _ _ (by (try dsimp only); first | (refine ⟨Ext.cell (w := w2) ?_ pa0, Ext.cell (w := w2) ?_ pa1, Ext.cell (w := w2) ?_ pb0, Ext.cell (w := w2) ?_ pb1, Ext.cell (w := w2) ?_ pb2, Ext.cell (w := w2) ?_ pb3, Ext.cell (w := w2) ?_ pb4, Ext.cell (w := w2) ?_ pb5, Ext.cell (w := w2) ?_ pb6, Ext.cell (w := w2) ?_ pb7⟩ <;> (repeat' (first | (with_reducible exact Ext.refl _) | (with_reducible assumption) | (with_reducible refine Ext.drewN ?_ _) | (with_reducible refine Ext.drew ?_) | (with_reducible refine Ext.alloc ?_ _) | (with_reducible refine Ext.setCell ?_ ?_ _) | (with_reducible refine Ext.setRow ?_ ?_ _) | (with_reducible exact Nat.le_refl _) | (with_reducible refine Ext.trans ?_ (by assumption)) | omega)); done)) (fun hHeld => ?_)
        clear hKz Kz
        (try simp only [List.getElem_toArray, List.getElem_cons_zero, List.getElem_cons_succ, Act.put, List.setIfInBounds_toArray, List.set_cons_zero, List.set_cons_succ])
        refine wpAnyH_ready (rs := [4]) (by kernel_rfl) (by simp) ?_
        refine AllReadyH.cons rfl (fun Kz hKz => ?_) AllReadyH.nil
        (try simp only [List.getElem_toArray, List.getElem_cons_zero, List.getElem_cons_succ])
        go_simp
        (go_at_call 11; refine (to_Shot (h1.ext (Ext.trans E2 (by repeat' (first | (with_reducible exact Ext.refl _) | (with_reducible assumption) | (with_reducible refine Ext.drewN ?_ _) | (with_reducible refine Ext.drew ?_) | (with_reducible refine Ext.alloc ?_ _) | (with_reducible refine Ext.setCell ?_ ?_ _) | (with_reducible refine Ext.setRow ?_ ?_ _) | (with_reducible exact Nat.le_refl _) | (with_reducible refine Ext.trans ?_ (by assumption)) | omega)))) q1_0 q1_1).mono ?_; rintro e wb ⟨_, rfl, hxwb, F1, g1⟩; obtain ⟨awq3, nwq3, kwq3, awq4, nwq4, kwq4, rfl⟩ := g1.rd.shape; have hzwb := hxwb.size; (try simp only [size_drew, World.size_alloc] at hzwb); have XAB : Ext wa wb := Ext.trans (by repeat' (first | (with_reducible exact Ext.refl _) | (with_reducible assumption) | (with_reducible refine Ext.drewN ?_ _) | (with_reducible refine Ext.drew ?_) | (with_reducible refine Ext.alloc ?_ _) | (with_reducible refine Ext.setCell ?_ ?_ _) | (with_reducible refine Ext.setRow ?_ ?_ _) | (with_reducible exact Nat.le_refl _) | (with_reducible refine Ext.trans ?_ (by assumption)) | omega)) hxwb; have XB : Ext w2 wb := XA.trans XAB; (first | (have KU := Blk.ext KU hxwb; have CU := KU.cell; have FU := KU.frozen; have LU := KU.lt) | (have KU : Blk wb wa.heap.size 38 #[.slice none 0 0, .slice none 0 0] := Blk.ext (Blk.new wa _ _) hxwb; have CU := KU.cell; have FU := KU.frozen; have LU := KU.lt) | skip))
        refine hKz.out _ _ (by (try dsimp only); first | (refine ⟨Ext.cell (w := w2) ?_ pa0, Ext.cell (w := w2) ?_ pa1, Ext.cell (w := w2) ?_ pb0, Ext.cell (w := w2) ?_ pb1, Ext.cell (w := w2) ?_ pb2, Ext.cell (w := w2) ?_ pb3, Ext.cell (w := w2) ?_ pb4, Ext.cell (w := w2) ?_ pb5, Ext.cell (w := w2) ?_ pb6, Ext.cell (w := w2) ?_ pb7⟩ <;> (repeat' (first | (with_reducible exact Ext.refl _) | (with_reducible assumption) | (with_reducible refine Ext.drewN ?_ _) | (with_reducible refine Ext.drew ?_) | (with_reducible refine Ext.alloc ?_ _) | (with_reducible refine Ext.setCell ?_ ?_ _) | (with_reducible refine Ext.setRow ?_ ?_ _) | (with_reducible exact Nat.le_refl _) | (with_reducible refine Ext.trans ?_ (by assumption)) | omega)); done)) (fun hHeld => ?_)
        clear hKz Kz
        (try simp only [List.getElem_toArray, List.getElem_cons_zero, List.getElem_cons_succ, Act.put, List.setIfInBounds_toArray, List.set_cons_zero, List.set_cons_succ])
        refine wpAnyH_ready (rs := [5]) (by kernel_rfl) (by simp) ?_
        refine AllReadyH.cons rfl (fun Kz hKz => ?_) AllReadyH.nil
        (try simp only [List.getElem_toArray, List.getElem_cons_zero, List.getElem_cons_succ])
        go_simp
        (go_at_call 9; refine (sShotWrote_k ((g0.rd).ext (Ext.trans XAB (by repeat' (first | (with_reducible exact Ext.refl _) | (with_reducible assumption) | (with_reducible refine Ext.drewN ?_ _) | (with_reducible refine Ext.drew ?_) | (with_reducible refine Ext.alloc ?_ _) | (with_reducible refine Ext.setCell ?_ ?_ _) | (with_reducible refine Ext.setRow ?_ ?_ _) | (with_reducible exact Nat.le_refl _) | (with_reducible refine Ext.trans ?_ (by assumption)) | omega)))) ((g1.rd).ext (by repeat' (first | (with_reducible exact Ext.refl _) | (with_reducible assumption) | (with_reducible refine Ext.drewN ?_ _) | (with_reducible refine Ext.drew ?_) | (with_reducible refine Ext.alloc ?_ _) | (with_reducible refine Ext.setCell ?_ ?_ _) | (with_reducible refine Ext.setRow ?_ ?_ _) | (with_reducible exact Nat.le_refl _) | (with_reducible refine Ext.trans ?_ (by assumption)) | omega))) c1_0).mono ?_; rintro e wc ⟨_, rfl, hxwc, vr, rfl, Fr, gr⟩; obtain ⟨aw0, nw0, kw0, aw1, nw1, kw1, rfl⟩ := gr.rd.shape; have hzwc := hxwc.size; (try simp only [size_drew, World.size_alloc] at hzwc); have XBC : Ext wb wc := Ext.trans (by repeat' (first | (with_reducible exact Ext.refl _) | (with_reducible assumption) | (with_reducible refine Ext.drewN ?_ _) | (with_reducible refine Ext.drew ?_) | (with_reducible refine Ext.alloc ?_ _) | (with_reducible refine Ext.setCell ?_ ?_ _) | (with_reducible refine Ext.setRow ?_ ?_ _) | (with_reducible exact Nat.le_refl _) | (with_reducible refine Ext.trans ?_ (by assumption)) | omega)) hxwc; have XC : Ext w2 wc := XB.trans XBC; have lr := gr.low; (try simp only [size_drew, World.size_alloc] at lr); (first | (have KU := Blk.ext KU hxwc; have CU := KU.cell; have FU := KU.frozen; have LU := KU.lt) | (have KU : Blk wc wb.heap.size 38 #[.slice none 0 0, .slice none 0 0] := Blk.ext (Blk.new wb _ _) hxwc; have CU := KU.cell; have FU := KU.frozen; have LU := KU.lt) | skip))
        refine hKz.out _ _ (by (try dsimp only); first | (refine ⟨Ext.cell (w := w2) ?_ pa0, Ext.cell (w := w2) ?_ pa1, Ext.cell (w := w2) ?_ pb0, Ext.cell (w := w2) ?_ pb1, Ext.cell (w := w2) ?_ pb2, Ext.cell (w := w2) ?_ pb3, Ext.cell (w := w2) ?_ pb4, Ext.cell (w := w2) ?_ pb5, Ext.cell (w := w2) ?_ pb6, Ext.cell (w := w2) ?_ pb7⟩ <;> (repeat' (first | (with_reducible exact Ext.refl _) | (with_reducible assumption) | (with_reducible refine Ext.drewN ?_ _) | (with_reducible refine Ext.drew ?_) | (with_reducible refine Ext.alloc ?_ _) | (with_reducible refine Ext.setCell ?_ ?_ _) | (with_reducible refine Ext.setRow ?_ ?_ _) | (with_reducible exact Nat.le_refl _) | (with_reducible refine Ext.trans ?_ (by assumption)) | omega)); done)) (fun hHeld => ?_)
        clear hKz Kz
        (try simp only [List.getElem_toArray, List.getElem_cons_zero, List.getElem_cons_succ, Act.put, List.setIfInBounds_toArray, List.set_cons_zero, List.set_cons_succ])
        refine wpAnyH_take (i := 6) (v := ?_) rfl (by kernel_rfl) (by kernel_rfl) (by kernel_rfl) (fun _ _ _ h => h) (Or.inl ⟨by rfl, ?_⟩) (by assumption) ?_
        rotate_left
        focus (intro w hSw; (try dsimp only at hSw); go_simp <;> with_reducible rfl)
        (try simp only [List.getElem_toArray, List.getElem_cons_zero, List.getElem_cons_succ, Act.put, List.setIfInBounds_toArray, List.set_cons_zero, List.set_cons_succ])
        refine wpAnyH_take (i := 7) (v := ?_) rfl (by kernel_rfl) (by kernel_rfl) (by kernel_rfl) (fun _ _ _ h => h) (Or.inl ⟨by rfl, ?_⟩) (by assumption) ?_
        rotate_left
        focus (intro w hSw; (try dsimp only at hSw); go_simp <;> with_reducible rfl)
        (try simp only [List.getElem_toArray, List.getElem_cons_zero, List.getElem_cons_succ, Act.put, List.setIfInBounds_toArray, List.set_cons_zero, List.set_cons_succ])
        refine wpAnyH_take (i := 8) (v := ?_) rfl (by kernel_rfl) (by kernel_rfl) (by kernel_rfl) (fun _ _ _ h => h) (Or.inl ⟨by rfl, ?_⟩) (by assumption) ?_
        rotate_left
        focus (intro w hSw; (try dsimp only at hSw); go_simp <;> with_reducible rfl)
        (try simp only [List.getElem_toArray, List.getElem_cons_zero, List.getElem_cons_succ, Act.put, List.setIfInBounds_toArray, List.set_cons_zero, List.set_cons_succ])
        refine wpAnyH_ready (rs := [10]) (by kernel_rfl) (by simp) ?_
        refine AllReadyH.cons rfl (fun Kz hKz => ?_) AllReadyH.nil
        (try simp only [List.getElem_toArray, List.getElem_cons_zero, List.getElem_cons_succ])
        go_simp
        refine hKz.out _ _ (by (try dsimp only); first | (refine ⟨Ext.cell (w := w2) ?_ pa0, Ext.cell (w := w2) ?_ pa1, Ext.cell (w := w2) ?_ pb0, Ext.cell (w := w2) ?_ pb1, Ext.cell (w := w2) ?_ pb2, Ext.cell (w := w2) ?_ pb3, Ext.cell (w := w2) ?_ pb4, Ext.cell (w := w2) ?_ pb5, Ext.cell (w := w2) ?_ pb6, Ext.cell (w := w2) ?_ pb7⟩ <;> (repeat' (first | (with_reducible exact Ext.refl _) | (with_reducible assumption) | (with_reducible refine Ext.drewN ?_ _) | (with_reducible refine Ext.drew ?_) | (with_reducible refine Ext.alloc ?_ _) | (with_reducible refine Ext.setCell ?_ ?_ _) | (with_reducible refine Ext.setRow ?_ ?_ _) | (with_reducible exact Nat.le_refl _) | (with_reducible refine Ext.trans ?_ (by assumption)) | omega)); done)) (fun hHeld => ?_)
        clear hKz Kz
        (try simp only [List.getElem_toArray, List.getElem_cons_zero, List.getElem_cons_succ, Act.put, List.setIfInBounds_toArray, List.set_cons_zero, List.set_cons_succ])
        refine wpAnyH_take (i := 11) (v := ?_) rfl (by kernel_rfl) (by kernel_rfl) (by kernel_rfl) (fun _ _ _ h => h) (Or.inl ⟨by rfl, ?_⟩) (by assumption) ?_
        rotate_left
        focus (intro w hSw; (try dsimp only at hSw); go_simp <;> with_reducible rfl)
        (try simp only [List.getElem_toArray, List.getElem_cons_zero, List.getElem_cons_succ, Act.put, List.setIfInBounds_toArray, List.set_cons_zero, List.set_cons_succ])
        refine wpAnyH_done (by kernel_rfl) ?_ _
        go_wp2_with fail
        go_meet
        case rel =>
          (try simp only [World.size_alloc, size_drew])
          first
            | (exact ⟨_, _, _, _, _, _, _, rfl, (by first | rfl | trivial), XC.alloc _, XC.size, Blk.new _ _ _, Fr, (gr.ext ((Ext.refl _).alloc _)).keep (Chg.refl _ _) (by first | omega | (simp only [World.size_alloc, size_drew]; omega)), fun k hk => ⟨by have := lr k hk; (try simp only [World.size_alloc]); omega, by have := lr k hk; omega⟩⟩)
            | (exact ⟨_, _, _, _, _, _, w2.heap.size, rfl, (by first | rfl | trivial), (Ext.setCell (Ext.setCell XC (by omega) _) (by omega) _), by omega, by (have := (Blk.set_ (Blk.set_ KU 0 (.slice aw0 nw0 kw0)) 1 (.slice aw1 nw1 kw1)); simpa using this), Fr, OwDisk.keep ((gr.box KU 0 _).box (Blk.set_ KU 0 _) 1 _) (Chg.refl _ _) (by first | omega | (simp only [World.size_alloc, size_drew]; omega)), fun k hk => ⟨by have := lr k hk; (try simp only [World.size_setCell]); omega, by have := lr k hk; omega⟩⟩)
            | (exact ⟨_, _, _, _, _, _, wa.heap.size, rfl, (by first | rfl | trivial), (Ext.setCell (Ext.setCell XC (by omega) _) (by omega) _), by omega, by (have := (Blk.set_ (Blk.set_ KU 0 (.slice aw0 nw0 kw0)) 1 (.slice aw1 nw1 kw1)); simpa using this), Fr, OwDisk.keep ((gr.box KU 0 _).box (Blk.set_ KU 0 _) 1 _) (Chg.refl _ _) (by first | omega | (simp only [World.size_alloc, size_drew]; omega)), fun k hk => ⟨by have := lr k hk; (try simp only [World.size_setCell]); omega, by have := lr k hk; omega⟩⟩)
            | (exact ⟨_, _, _, _, _, _, wb.heap.size, rfl, (by first | rfl | trivial), (Ext.setCell (Ext.setCell XC (by omega) _) (by omega) _), by omega, by (have := (Blk.set_ (Blk.set_ KU 0 (.slice aw0 nw0 kw0)) 1 (.slice aw1 nw1 kw1)); simpa using this), Fr, OwDisk.keep ((gr.box KU 0 _).box (Blk.set_ KU 0 _) 1 _) (Chg.refl _ _) (by first | omega | (simp only [World.size_alloc, size_drew]; omega)), fun k hk => ⟨by have := lr k hk; (try simp only [World.size_setCell]); omega, by have := lr k hk; omega⟩⟩)
    · (try simp only [List.getElem_toArray, List.getElem_cons_zero, List.getElem_cons_succ])
      go_simp
      refine hKz.out _ _ (by (try dsimp only); first | (refine ⟨Ext.cell (w := w2) ?_ pa0, Ext.cell (w := w2) ?_ pa1, Ext.cell (w := w2) ?_ pb0, Ext.cell (w := w2) ?_ pb1, Ext.cell (w := w2) ?_ pb2, Ext.cell (w := w2) ?_ pb3, Ext.cell (w := w2) ?_ pb4, Ext.cell (w := w2) ?_ pb5, Ext.cell (w := w2) ?_ pb6, Ext.cell (w := w2) ?_ pb7⟩ <;> (repeat' (first | (with_reducible exact Ext.refl _) | (with_reducible assumption) | (with_reducible refine Ext.drewN ?_ _) | (with_reducible refine Ext.drew ?_) | (with_reducible refine Ext.alloc ?_ _) | (with_reducible refine Ext.setCell ?_ ?_ _) | (with_reducible refine Ext.setRow ?_ ?_ _) | (with_reducible exact Nat.le_refl _) | (with_reducible refine Ext.trans ?_ (by assumption)) | omega)); done)) (fun hHeld => ?_)
      clear hKz Kz
      (try simp only [List.getElem_toArray, List.getElem_cons_zero, List.getElem_cons_succ, Act.put, List.setIfInBounds_toArray, List.set_cons_zero, List.set_cons_succ])
      refine wpAnyH_ready (rs := [1]) (by kernel_rfl) (by simp) ?_
      refine AllReadyH.cons rfl (fun Kz hKz => ?_) AllReadyH.nil
      (try simp only [List.getElem_toArray, List.getElem_cons_zero, List.getElem_cons_succ])
      go_simp
      (go_at_call 10; refine (to_Disk (h0.ext (Ext.trans E2 (by repeat' (first | (with_reducible exact Ext.refl _) | (with_reducible assumption) | (with_reducible refine Ext.drewN ?_ _) | (with_reducible refine Ext.drew ?_) | (with_reducible refine Ext.alloc ?_ _) | (with_reducible refine Ext.setCell ?_ ?_ _) | (with_reducible refine Ext.setRow ?_ ?_ _) | (with_reducible exact Nat.le_refl _) | (with_reducible refine Ext.trans ?_ (by assumption)) | omega)))) q0_0 q0_1).mono ?_; rintro e wa ⟨_, rfl, hxwa, F0, g0⟩; obtain ⟨awp0, nwp0, kwp0, awp1, nwp1, kwp1, rfl⟩ := g0.rd.shape; have hzwa := hxwa.size; (try simp only [size_drew, World.size_alloc] at hzwa); have XA : Ext w2 wa := Ext.trans (by repeat' (first | (with_reducible exact Ext.refl _) | (with_reducible assumption) | (with_reducible refine Ext.drewN ?_ _) | (with_reducible refine Ext.drew ?_) | (with_reducible refine Ext.alloc ?_ _) | (with_reducible refine Ext.setCell ?_ ?_ _) | (with_reducible refine Ext.setRow ?_ ?_ _) | (with_reducible exact Nat.le_refl _) | (with_reducible refine Ext.trans ?_ (by assumption)) | omega)) hxwa; (first | (have KU := Blk.ext KU hxwa; have CU := KU.cell; have FU := KU.frozen; have LU := KU.lt) | (have KU : Blk wa w2.heap.size 38 #[.slice none 0 0, .slice none 0 0] := Blk.ext (Blk.new w2.drew _ _) hxwa; have CU := KU.cell; have FU := KU.frozen; have LU := KU.lt) | skip))
      refine hKz.out _ _ (by (try dsimp only); first | (refine ⟨Ext.cell (w := w2) ?_ pa0, Ext.cell (w := w2) ?_ pa1, Ext.cell (w := w2) ?_ pb0, Ext.cell (w := w2) ?_ pb1, Ext.cell (w := w2) ?_ pb2, Ext.cell (w := w2) ?_ pb3, Ext.cell (w := w2) ?_ pb4, Ext.cell (w := w2) ?_ pb5, Ext.cell (w := w2) ?_ pb6, Ext.cell (w := w2) ?_ pb7⟩ <;> (repeat' (first | (with_reducible exact Ext.refl _) | (with_reducible assumption) | (with_reducible refine Ext.drewN ?_ _) | (with_reducible refine Ext.drew ?_) | (with_reducible refine Ext.alloc ?_ _) | (with_reducible refine Ext.setCell ?_ ?_ _) | (with_reducible refine Ext.setRow ?_ ?_ _) | (with_reducible exact Nat.le_refl _) | (with_reducible refine Ext.trans ?_ (by assumption)) | omega)); done)) (fun hHeld => ?_)
      clear hKz Kz
      (try simp only [List.getElem_toArray, List.getElem_cons_zero, List.getElem_cons_succ, Act.put, List.setIfInBounds_toArray, List.set_cons_zero, List.set_cons_succ])
      refine wpAnyH_ready (rs := [4]) (by kernel_rfl) (by simp) ?_
      refine AllReadyH.cons rfl (fun Kz hKz => ?_) AllReadyH.nil
      (try simp only [List.getElem_toArray, List.getElem_cons_zero, List.getElem_cons_succ])
      go_simp
      (go_at_call 11; refine (to_Shot (h1.ext (Ext.trans E2 (by repeat' (first | (with_reducible exact Ext.refl _) | (with_reducible assumption) | (with_reducible refine Ext.drewN ?_ _) | (with_reducible refine Ext.drew ?_) | (with_reducible refine Ext.alloc ?_ _) | (with_reducible refine Ext.setCell ?_ ?_ _) | (with_reducible refine Ext.setRow ?_ ?_ _) | (with_reducible exact Nat.le_refl _) | (with_reducible refine Ext.trans ?_ (by assumption)) | omega)))) q1_0 q1_1).mono ?_; rintro e wb ⟨_, rfl, hxwb, F1, g1⟩; obtain ⟨awq3, nwq3, kwq3, awq4, nwq4, kwq4, rfl⟩ := g1.rd.shape; have hzwb := hxwb.size; (try simp only [size_drew, World.size_alloc] at hzwb); have XAB : Ext wa wb := Ext.trans (by repeat' (first | (with_reducible exact Ext.refl _) | (with_reducible assumption) | (with_reducible refine Ext.drewN ?_ _) | (with_reducible refine Ext.drew ?_) | (with_reducible refine Ext.alloc ?_ _) | (with_reducible refine Ext.setCell ?_ ?_ _) | (with_reducible refine Ext.setRow ?_ ?_ _) | (with_reducible exact Nat.le_refl _) | (with_reducible refine Ext.trans ?_ (by assumption)) | omega)) hxwb; have XB : Ext w2 wb := XA.trans XAB; (first | (have KU := Blk.ext KU hxwb; have CU := KU.cell; have FU := KU.frozen; have LU := KU.lt) | (have KU : Blk wb wa.heap.size 38 #[.slice none 0 0, .slice none 0 0] := Blk.ext (Blk.new wa _ _) hxwb; have CU := KU.cell; have FU := KU.frozen; have LU := KU.lt) | skip))
      refine hKz.out _ _ (by (try dsimp only); first | (refine ⟨Ext.cell (w := w2) ?_ pa0, Ext.cell (w := w2) ?_ pa1, Ext.cell (w := w2) ?_ pb0, Ext.cell (w := w2) ?_ pb1, Ext.cell (w := w2) ?_ pb2, Ext.cell (w := w2) ?_ pb3, Ext.cell (w := w2) ?_ pb4, Ext.cell (w := w2) ?_ pb5, Ext.cell (w := w2) ?_ pb6, Ext.cell (w := w2) ?_ pb7⟩ <;> (repeat' (first | (with_reducible exact Ext.refl _) | (with_reducible assumption) | (with_reducible refine Ext.drewN ?_ _) | (with_reducible refine Ext.drew ?_) | (with_reducible refine Ext.alloc ?_ _) | (with_reducible refine Ext.setCell ?_ ?_ _) | (with_reducible refine Ext.setRow ?_ ?_ _) | (with_reducible exact Nat.le_refl _) | (with_reducible refine Ext.trans ?_ (by assumption)) | omega)); done)) (fun hHeld => ?_)
      clear hKz Kz
      (try simp only [List.getElem_toArray, List.getElem_cons_zero, List.getElem_cons_succ, Act.put, List.setIfInBounds_toArray, List.set_cons_zero, List.set_cons_succ])
      refine wpAnyH_ready (rs := [5]) (by kernel_rfl) (by simp) ?_
      refine AllReadyH.cons rfl (fun Kz hKz => ?_) AllReadyH.nil
      (try simp only [List.getElem_toArray, List.getElem_cons_zero, List.getElem_cons_succ])
      go_simp
      (go_at_call 9; refine (sShotWrote_k ((g0.rd).ext (Ext.trans XAB (by repeat' (first | (with_reducible exact Ext.refl _) | (with_reducible assumption) | (with_reducible refine Ext.drewN ?_ _) | (with_reducible refine Ext.drew ?_) | (with_reducible refine Ext.alloc ?_ _) | (with_reducible refine Ext.setCell ?_ ?_ _) | (with_reducible refine Ext.setRow ?_ ?_ _) | (with_reducible exact Nat.le_refl _) | (with_reducible refine Ext.trans ?_ (by assumption)) | omega)))) ((g1.rd).ext (by repeat' (first | (with_reducible exact Ext.refl _) | (with_reducible assumption) | (with_reducible refine Ext.drewN ?_ _) | (with_reducible refine Ext.drew ?_) | (with_reducible refine Ext.alloc ?_ _) | (with_reducible refine Ext.setCell ?_ ?_ _) | (with_reducible refine Ext.setRow ?_ ?_ _) | (with_reducible exact Nat.le_refl _) | (with_reducible refine Ext.trans ?_ (by assumption)) | omega))) c1_0).mono ?_; rintro e wc ⟨_, rfl, hxwc, vr, rfl, Fr, gr⟩; obtain ⟨aw0, nw0, kw0, aw1, nw1, kw1, rfl⟩ := gr.rd.shape; have hzwc := hxwc.size; (try simp only [size_drew, World.size_alloc] at hzwc); have XBC : Ext wb wc := Ext.trans (by repeat' (first | (with_reducible exact Ext.refl _) | (with_reducible assumption) | (with_reducible refine Ext.drewN ?_ _) | (with_reducible refine Ext.drew ?_) | (with_reducible refine Ext.alloc ?_ _) | (with_reducible refine Ext.setCell ?_ ?_ _) | (with_reducible refine Ext.setRow ?_ ?_ _) | (with_reducible exact Nat.le_refl _) | (with_reducible refine Ext.trans ?_ (by assumption)) | omega)) hxwc; have XC : Ext w2 wc := XB.trans XBC; have lr := gr.low; (try simp only [size_drew, World.size_alloc] at lr); (first | (have KU := Blk.ext KU hxwc; have CU := KU.cell; have FU := KU.frozen; have LU := KU.lt) | (have KU : Blk wc wb.heap.size 38 #[.slice none 0 0, .slice none 0 0] := Blk.ext (Blk.new wb _ _) hxwc; have CU := KU.cell; have FU := KU.frozen; have LU := KU.lt) | skip))
      refine hKz.out _ _ (by (try dsimp only); first | (refine ⟨Ext.cell (w := w2) ?_ pa0, Ext.cell (w := w2) ?_ pa1, Ext.cell (w := w2) ?_ pb0, Ext.cell (w := w2) ?_ pb1, Ext.cell (w := w2) ?_ pb2, Ext.cell (w := w2) ?_ pb3, Ext.cell (w := w2) ?_ pb4, Ext.cell (w := w2) ?_ pb5, Ext.cell (w := w2) ?_ pb6, Ext.cell (w := w2) ?_ pb7⟩ <;> (repeat' (first | (with_reducible exact Ext.refl _) | (with_reducible assumption) | (with_reducible refine Ext.drewN ?_ _) | (with_reducible refine Ext.drew ?_) | (with_reducible refine Ext.alloc ?_ _) | (with_reducible refine Ext.setCell ?_ ?_ _) | (with_reducible refine Ext.setRow ?_ ?_ _) | (with_reducible exact Nat.le_refl _) | (with_reducible refine Ext.trans ?_ (by assumption)) | omega)); done)) (fun hHeld => ?_)
      clear hKz Kz
      (try simp only [List.getElem_toArray, List.getElem_cons_zero, List.getElem_cons_succ, Act.put, List.setIfInBounds_toArray, List.set_cons_zero, List.set_cons_succ])
      refine wpAnyH_take (i := 6) (v := ?_) rfl (by kernel_rfl) (by kernel_rfl) (by kernel_rfl) (fun _ _ _ h => h) (Or.inl ⟨by rfl, ?_⟩) (by assumption) ?_
      rotate_left
      focus (intro w hSw; (try dsimp only at hSw); go_simp <;> with_reducible rfl)
      (try simp only [List.getElem_toArray, List.getElem_cons_zero, List.getElem_cons_succ, Act.put, List.setIfInBounds_toArray, List.set_cons_zero, List.set_cons_succ])
      refine wpAnyH_take (i := 7) (v := ?_) rfl (by kernel_rfl) (by kernel_rfl) (by kernel_rfl) (fun _ _ _ h => h) (Or.inl ⟨by rfl, ?_⟩) (by assumption) ?_
      rotate_left
      focus (intro w hSw; (try dsimp only at hSw); go_simp <;> with_reducible rfl)
      (try simp only [List.getElem_toArray, List.getElem_cons_zero, List.getElem_cons_succ, Act.put, List.setIfInBounds_toArray, List.set_cons_zero, List.set_cons_succ])
      refine wpAnyH_take (i := 8) (v := ?_) rfl (by kernel_rfl) (by kernel_rfl) (by kernel_rfl) (fun _ _ _ h => h) (Or.inl ⟨by rfl, ?_⟩) (by assumption) ?_
      rotate_left
      focus (intro w hSw; (try dsimp only at hSw); go_simp <;> with_reducible rfl)
      (try simp only [List.getElem_toArray, List.getElem_cons_zero, List.getElem_cons_succ, Act.put, List.setIfInBounds_toArray, List.set_cons_zero, List.set_cons_succ])
      refine wpAnyH_ready (rs := [10]) (by kernel_rfl) (by simp) ?_
      refine AllReadyH.cons rfl (fun Kz hKz => ?_) AllReadyH.nil
      (try simp only [List.getElem_toArray, List.getElem_cons_zero, List.getElem_cons_succ])
      go_simp
      refine hKz.out _ _ (by (try dsimp only); first | (refine ⟨Ext.cell (w := w2) ?_ pa0, Ext.cell (w := w2) ?_ pa1, Ext.cell (w := w2) ?_ pb0, Ext.cell (w := w2) ?_ pb1, Ext.cell (w := w2) ?_ pb2, Ext.cell (w := w2) ?_ pb3, Ext.cell (w := w2) ?_ pb4, Ext.cell (w := w2) ?_ pb5, Ext.cell (w := w2) ?_ pb6, Ext.cell (w := w2) ?_ pb7⟩ <;> (repeat' (first | (with_reducible exact Ext.refl _) | (with_reducible assumption) | (with_reducible refine Ext.drewN ?_ _) | (with_reducible refine Ext.drew ?_) | (with_reducible refine Ext.alloc ?_ _) | (with_reducible refine Ext.setCell ?_ ?_ _) | (with_reducible refine Ext.setRow ?_ ?_ _) | (with_reducible exact Nat.le_refl _) | (with_reducible refine Ext.trans ?_ (by assumption)) | omega)); done)) (fun hHeld => ?_)
      clear hKz Kz
      (try simp only [List.getElem_toArray, List.getElem_cons_zero, List.getElem_cons_succ, Act.put, List.setIfInBounds_toArray, List.set_cons_zero, List.set_cons_succ])
      refine wpAnyH_take (i := 11) (v := ?_) rfl (by kernel_rfl) (by kernel_rfl) (by kernel_rfl) (fun _ _ _ h => h) (Or.inl ⟨by rfl, ?_⟩) (by assumption) ?_
      rotate_left
      focus (intro w hSw; (try dsimp only at hSw); go_simp <;> with_reducible rfl)
      (try simp only [List.getElem_toArray, List.getElem_cons_zero, List.getElem_cons_succ, Act.put, List.setIfInBounds_toArray, List.set_cons_zero, List.set_cons_succ])
      refine wpAnyH_done (by kernel_rfl) ?_ _
      go_wp2_with fail
      go_meet
      case rel =>
        (try simp only [World.size_alloc, size_drew])
        first
          | (exact ⟨_, _, _, _, _, _, _, rfl, (by first | rfl | trivial), XC.alloc _, XC.size, Blk.new _ _ _, Fr, (gr.ext ((Ext.refl _).alloc _)).keep (Chg.refl _ _) (by first | omega | (simp only [World.size_alloc, size_drew]; omega)), fun k hk => ⟨by have := lr k hk; (try simp only [World.size_alloc]); omega, by have := lr k hk; omega⟩⟩)
          | (exact ⟨_, _, _, _, _, _, w2.heap.size, rfl, (by first | rfl | trivial), (Ext.setCell (Ext.setCell XC (by omega) _) (by omega) _), by omega, by (have := (Blk.set_ (Blk.set_ KU 0 (.slice aw0 nw0 kw0)) 1 (.slice aw1 nw1 kw1)); simpa using this), Fr, OwDisk.keep ((gr.box KU 0 _).box (Blk.set_ KU 0 _) 1 _) (Chg.refl _ _) (by first | omega | (simp only [World.size_alloc, size_drew]; omega)), fun k hk => ⟨by have := lr k hk; (try simp only [World.size_setCell]); omega, by have := lr k hk; omega⟩⟩)
          | (exact ⟨_, _, _, _, _, _, wa.heap.size, rfl, (by first | rfl | trivial), (Ext.setCell (Ext.setCell XC (by omega) _) (by omega) _), by omega, by (have := (Blk.set_ (Blk.set_ KU 0 (.slice aw0 nw0 kw0)) 1 (.slice aw1 nw1 kw1)); simpa using this), Fr, OwDisk.keep ((gr.box KU 0 _).box (Blk.set_ KU 0 _) 1 _) (Chg.refl _ _) (by first | omega | (simp only [World.size_alloc, size_drew]; omega)), fun k hk => ⟨by have := lr k hk; (try simp only [World.size_setCell]); omega, by have := lr k hk; omega⟩⟩)
          | (exact ⟨_, _, _, _, _, _, wb.heap.size, rfl, (by first | rfl | trivial), (Ext.setCell (Ext.setCell XC (by omega) _) (by omega) _), by omega, by (have := (Blk.set_ (Blk.set_ KU 0 (.slice aw0 nw0 kw0)) 1 (.slice aw1 nw1 kw1)); simpa using this), Fr, OwDisk.keep ((gr.box KU 0 _).box (Blk.set_ KU 0 _) 1 _) (Chg.refl _ _) (by first | omega | (simp only [World.size_alloc, size_drew]; omega)), fun k hk => ⟨by have := lr k hk; (try simp only [World.size_setCell]); omega, by have := lr k hk; omega⟩⟩)
  case rest =>
    revert wc; intro w3 hcut
    obtain ⟨aw0, nw0, kw0, aw1, nw1, kw1, bw, rfl, rfl, X3, hgew, Bw, Fw, gw, hlow⟩ := hcut
    clear pa0 pa1 pb0 pb1 pb2 pb3 pb4 pb5 pb6 pb7
    have lw : ∀ k, k ∈ Fw → w2.heap.size ≤ k ∧ k < w3.heap.size := fun k hk => ⟨(gw.low k hk).1, (hlow k hk).1⟩
    have hb2w : ∀ k, k ∈ Fw → k ≠ bw := fun k hk => (hlow k hk).2
    clear hlow
    have MBw := Bw.lt
    have Z3 := X3.size; have E3 : Ext w w3 := E2.trans X3
    have Ba := Ba.ext X3
    have Bb := Bb.ext X3
    have CBa := Ba.cell; have LBa := Ba.lt
    have CBb := Bb.cell; have LBb := Bb.lt
    have CBw := Bw.cell; have LBw := Bw.lt
    go_wp2_with fail
    refine (to_Disk (h0.ext (by repeat' (first | (with_reducible exact Ext.refl _) | (with_reducible assumption) | (with_reducible refine Ext.drewN ?_ _) | (with_reducible refine Ext.drew ?_) | (with_reducible refine Ext.alloc ?_ _) | (with_reducible refine Ext.setCell ?_ ?_ _) | (with_reducible refine Ext.setRow ?_ ?_ _) | (with_reducible exact Nat.le_refl _) | (with_reducible refine Ext.trans ?_ (by assumption)) | omega))) q0_0 q0_1).mono ?_
    rintro e w4 ⟨_, rfl, hx4, Fx, gx⟩
    obtain ⟨ax0, nx0, kx0, ax1, nx1, kx1, rfl⟩ := gx.rd.shape
    have lx := gx.low; (try simp only [World.size_alloc] at lx)
    have X4 : Ext w3 w4 := by repeat' (first | (with_reducible exact Ext.refl _) | (with_reducible assumption) | (with_reducible refine Ext.drewN ?_ _) | (with_reducible refine Ext.drew ?_) | (with_reducible refine Ext.alloc ?_ _) | (with_reducible refine Ext.setCell ?_ ?_ _) | (with_reducible refine Ext.setRow ?_ ?_ _) | (with_reducible exact Nat.le_refl _) | (with_reducible refine Ext.trans ?_ (by assumption)) | omega)
    have Z4 := X4.size
    have E4 : Ext w w4 := E3.trans X4
    have Ba := Ba.ext X4
    have Bb := Bb.ext X4
    have Bw := Bw.ext X4
    have gw := gw.ext X4
    clear hx4
    clear CBa LBa CBb LBb CBw LBw
    have CBa := Ba.cell; have LBa := Ba.lt
    have CBb := Bb.cell; have LBb := Bb.lt
    have CBw := Bw.cell; have LBw := Bw.lt
    go_wp2_with fail
    refine (to_Shot (h1.ext (by repeat' (first | (with_reducible exact Ext.refl _) | (with_reducible assumption) | (with_reducible refine Ext.drewN ?_ _) | (with_reducible refine Ext.drew ?_) | (with_reducible refine Ext.alloc ?_ _) | (with_reducible refine Ext.setCell ?_ ?_ _) | (with_reducible refine Ext.setRow ?_ ?_ _) | (with_reducible exact Nat.le_refl _) | (with_reducible refine Ext.trans ?_ (by assumption)) | omega))) q1_0 q1_1).mono ?_
    rintro e w5 ⟨_, rfl, hx5, Fy, gy⟩
    obtain ⟨ay3, ny3, ky3, ay4, ny4, ky4, rfl⟩ := gy.rd.shape
    have ly := gy.low; (try simp only [World.size_alloc] at ly)
    have X5 : Ext w4 w5 := by repeat' (first | (with_reducible exact Ext.refl _) | (with_reducible assumption) | (with_reducible refine Ext.drewN ?_ _) | (with_reducible refine Ext.drew ?_) | (with_reducible refine Ext.alloc ?_ _) | (with_reducible refine Ext.setCell ?_ ?_ _) | (with_reducible refine Ext.setRow ?_ ?_ _) | (with_reducible exact Nat.le_refl _) | (with_reducible refine Ext.trans ?_ (by assumption)) | omega)
    have Bx : Blk w5 w4.heap.size 38 #[.slice ax0 nx0 kx0, .slice ax1 nx1 kx1] := (Blk.new w4 38 #[.slice ax0 nx0 kx0, .slice ax1 nx1 kx1]).ext hx5
    have MBx := Bx.lt
    have Z5 := X5.size
    have E5 : Ext w w5 := E4.trans X5
    have Ba := Ba.ext X5
    have Bb := Bb.ext X5
    have Bw := Bw.ext X5
    have gw := gw.ext X5
    have gx := gx.ext X5
    clear hx5
    clear CBa LBa CBb LBb CBw LBw
    have CBa := Ba.cell; have LBa := Ba.lt
    have CBb := Bb.cell; have LBb := Bb.lt
    have CBw := Bw.cell; have LBw := Bw.lt
    have CBx := Bx.cell; have LBx := Bx.lt
    go_wp2_with fail
    refine (shotWrote_k ((gx.rd).ext (by repeat' (first | (with_reducible exact Ext.refl _) | (with_reducible assumption) | (with_reducible refine Ext.drewN ?_ _) | (with_reducible refine Ext.drew ?_) | (with_reducible refine Ext.alloc ?_ _) | (with_reducible refine Ext.setCell ?_ ?_ _) | (with_reducible refine Ext.setRow ?_ ?_ _) | (with_reducible exact Nat.le_refl _) | (with_reducible refine Ext.trans ?_ (by assumption)) | omega))) ((gy.rd).ext (by repeat' (first | (with_reducible exact Ext.refl _) | (with_reducible assumption) | (with_reducible refine Ext.drewN ?_ _) | (with_reducible refine Ext.drew ?_) | (with_reducible refine Ext.alloc ?_ _) | (with_reducible refine Ext.setCell ?_ ?_ _) | (with_reducible refine Ext.setRow ?_ ?_ _) | (with_reducible exact Nat.le_refl _) | (with_reducible refine Ext.trans ?_ (by assumption)) | omega))) c1_0).mono ?_
    rintro e w6 ⟨_, rfl, hx6, vg, rfl, Fg, gg⟩
    obtain ⟨ag0, ng0, kg0, ag1, ng1, kg1, rfl⟩ := gg.rd.shape
    have lg := gg.low; (try simp only [World.size_alloc] at lg)
    have X6 : Ext w5 w6 := by repeat' (first | (with_reducible exact Ext.refl _) | (with_reducible assumption) | (with_reducible refine Ext.drewN ?_ _) | (with_reducible refine Ext.drew ?_) | (with_reducible refine Ext.alloc ?_ _) | (with_reducible refine Ext.setCell ?_ ?_ _) | (with_reducible refine Ext.setRow ?_ ?_ _) | (with_reducible exact Nat.le_refl _) | (with_reducible refine Ext.trans ?_ (by assumption)) | omega)
    have By : Blk w6 w5.heap.size 48 #[.int .i64 T.Num, .int .i64 T.State.Index, .int .i64 T.State.Time, .slice ay3 ny3 ky3, .slice ay4 ny4 ky4, .int .i64 T.State.Lease.Holder, .int .i64 T.State.Lease.Epoch, .int .i64 T.State.Lease.Until] := (Blk.new w5 48 #[.int .i64 T.Num, .int .i64 T.State.Index, .int .i64 T.State.Time, .slice ay3 ny3 ky3, .slice ay4 ny4 ky4, .int .i64 T.State.Lease.Holder, .int .i64 T.State.Lease.Epoch, .int .i64 T.State.Lease.Until]).ext hx6
    have MBy := By.lt
    have Z6 := X6.size
    have E6 : Ext w w6 := E5.trans X6
    have Ba := Ba.ext X6
    have Bb := Bb.ext X6
    have Bw := Bw.ext X6
    have gw := gw.ext X6
    have gx := gx.ext X6
    have Bx := Bx.ext X6
    have gy := gy.ext X6
    clear hx6
    clear CBa LBa CBb LBb CBw LBw CBx LBx
    have CBa := Ba.cell; have LBa := Ba.lt
    have CBb := Bb.cell; have LBb := Bb.lt
    have CBw := Bw.cell; have LBw := Bw.lt
    have CBx := Bx.cell; have LBx := Bx.lt
    have CBy := By.cell; have LBy := By.lt
    as_aux_lemma =>
      go_wp2_with fail
      refine (eq_Disk ((gg.rd).ext (by repeat' (first | (with_reducible exact Ext.refl _) | (with_reducible assumption) | (with_reducible refine Ext.drewN ?_ _) | (with_reducible refine Ext.drew ?_) | (with_reducible refine Ext.alloc ?_ _) | (with_reducible refine Ext.setCell ?_ ?_ _) | (with_reducible refine Ext.setRow ?_ ?_ _) | (with_reducible exact Nat.le_refl _) | (with_reducible refine Ext.trans ?_ (by assumption)) | omega))) ((gw.rd).ext (by repeat' (first | (with_reducible exact Ext.refl _) | (with_reducible assumption) | (with_reducible refine Ext.drewN ?_ _) | (with_reducible refine Ext.drew ?_) | (with_reducible refine Ext.alloc ?_ _) | (with_reducible refine Ext.setCell ?_ ?_ _) | (with_reducible refine Ext.setRow ?_ ?_ _) | (with_reducible exact Nat.le_refl _) | (with_reducible refine Ext.trans ?_ (by assumption)) | omega)))).mono ?_
      rintro e w7 ⟨rfl, hx7⟩
      have X7 : Ext w6 w7 := by repeat' (first | (with_reducible exact Ext.refl _) | (with_reducible assumption) | (with_reducible refine Ext.drewN ?_ _) | (with_reducible refine Ext.drew ?_) | (with_reducible refine Ext.alloc ?_ _) | (with_reducible refine Ext.setCell ?_ ?_ _) | (with_reducible refine Ext.setRow ?_ ?_ _) | (with_reducible exact Nat.le_refl _) | (with_reducible refine Ext.trans ?_ (by assumption)) | omega)
      have Bg : Blk w7 w6.heap.size 38 #[.slice ag0 ng0 kg0, .slice ag1 ng1 kg1] := (Blk.new w6 38 #[.slice ag0 ng0 kg0, .slice ag1 ng1 kg1]).ext hx7
      have MBg := Bg.lt
      have Z7 := X7.size
      have E7 : Ext w w7 := E6.trans X7
      have Ba := Ba.ext X7
      have Bb := Bb.ext X7
      have Bw := Bw.ext X7
      have gw := gw.ext X7
      have gx := gx.ext X7
      have Bx := Bx.ext X7
      have gy := gy.ext X7
      have By := By.ext X7
      have gg := gg.ext X7
      clear hx7
      clear CBa LBa CBb LBb CBw LBw CBx LBx CBy LBy
      have CBa := Ba.cell; have LBa := Ba.lt
      have CBb := Bb.cell; have LBb := Bb.lt
      have CBw := Bw.cell; have LBw := Bw.lt
      have CBx := Bx.cell; have LBx := Bx.lt
      have CBy := By.cell; have LBy := By.lt
      have CBg := Bg.cell; have LBg := Bg.lt
      go_wp2_with fail
      have ya0 : ∀ w', Ext w7 w' → w'.cell? ⟨_, 0, none⟩ = some (.slice a0_0 n0_0 k0_0) := fun w' hw => (Ba.ext hw).cell 0
      have ya1 : ∀ w', Ext w7 w' → w'.cell? ⟨_, 1, none⟩ = some (.slice a0_1 n0_1 k0_1) := fun w' hw => (Ba.ext hw).cell 1
      have yb0 : ∀ w', Ext w7 w' → w'.cell? ⟨_, 0, none⟩ = some (.slice ax0 nx0 kx0) := fun w' hw => (Bx.ext hw).cell 0
      have yb1 : ∀ w', Ext w7 w' → w'.cell? ⟨_, 1, none⟩ = some (.slice ax1 nx1 kx1) := fun w' hw => (Bx.ext hw).cell 1
      clear CBa LBa CBb LBb CBw LBw CBx LBx CBy LBy CBg LBg
      go_region_held3 (fun w' => Ext w7 w') (first | exact Ext.drew (Ext.refl _) | exact Ext.trans (by assumption) hx8 | exact Ext.trans (by assumption) hx9) (first | (go_at_call 10; refine (to_Disk (h0.ext (Ext.trans E7 (by assumption))) q0_0 q0_1).mono ?_; rintro e w8 ⟨_, rfl, hx8, Fz, gz⟩; obtain ⟨az0, nz0, kz0, az1, nz1, kz1, rfl⟩ := gz.rd.shape) | (go_at_call 13; refine (eq_Disk ((gx.rd).ext (by assumption)) gz.rd).mono ?_; rintro e w9 ⟨rfl, hx9⟩))
      have X9 : Ext w7 w9 := by assumption
      clear ya0 yb0 ya1 yb1 hx9
      have Z9 := X9.size; have E9 : Ext w w9 := E7.trans X9
      have Ba := Ba.ext X9
      have Bb := Bb.ext X9
      have Bw := Bw.ext X9
      have gw := gw.ext X9
      have gx := gx.ext X9
      have Bx := Bx.ext X9
      have gy := gy.ext X9
      have By := By.ext X9
      have gg := gg.ext X9
      have Bg := Bg.ext X9
      have CBa := Ba.cell; have LBa := Ba.lt
      have CBb := Bb.cell; have LBb := Bb.lt
      have CBw := Bw.cell; have LBw := Bw.lt
      have CBx := Bx.cell; have LBx := Bx.lt
      have CBy := By.cell; have LBy := By.lt
      have CBg := Bg.cell; have LBg := Bg.lt
      go_wp2_with fail
      have ya0 : ∀ w', Ext w9 w' → w'.cell? ⟨_, 0, none⟩ = some (.int .i64 c2_0) := fun w' hw => (Bb.ext hw).cell 0
      have ya1 : ∀ w', Ext w9 w' → w'.cell? ⟨_, 1, none⟩ = some (.int .i64 c2_1) := fun w' hw => (Bb.ext hw).cell 1
      have ya2 : ∀ w', Ext w9 w' → w'.cell? ⟨_, 2, none⟩ = some (.int .i64 c2_2) := fun w' hw => (Bb.ext hw).cell 2
      have ya3 : ∀ w', Ext w9 w' → w'.cell? ⟨_, 3, none⟩ = some (.slice a2_3 n2_3 k2_3) := fun w' hw => (Bb.ext hw).cell 3
      have ya4 : ∀ w', Ext w9 w' → w'.cell? ⟨_, 4, none⟩ = some (.slice a2_4 n2_4 k2_4) := fun w' hw => (Bb.ext hw).cell 4
      have ya5 : ∀ w', Ext w9 w' → w'.cell? ⟨_, 5, none⟩ = some (.int .i64 c2_5) := fun w' hw => (Bb.ext hw).cell 5
      have ya6 : ∀ w', Ext w9 w' → w'.cell? ⟨_, 6, none⟩ = some (.int .i64 c2_6) := fun w' hw => (Bb.ext hw).cell 6
      have ya7 : ∀ w', Ext w9 w' → w'.cell? ⟨_, 7, none⟩ = some (.int .i64 c2_7) := fun w' hw => (Bb.ext hw).cell 7
      have yb0 : ∀ w', Ext w9 w' → w'.cell? ⟨_, 0, none⟩ = some (.int .i64 T.Num) := fun w' hw => (By.ext hw).cell 0
      have yb1 : ∀ w', Ext w9 w' → w'.cell? ⟨_, 1, none⟩ = some (.int .i64 T.State.Index) := fun w' hw => (By.ext hw).cell 1
      have yb2 : ∀ w', Ext w9 w' → w'.cell? ⟨_, 2, none⟩ = some (.int .i64 T.State.Time) := fun w' hw => (By.ext hw).cell 2
      have yb3 : ∀ w', Ext w9 w' → w'.cell? ⟨_, 3, none⟩ = some (.slice ay3 ny3 ky3) := fun w' hw => (By.ext hw).cell 3
      have yb4 : ∀ w', Ext w9 w' → w'.cell? ⟨_, 4, none⟩ = some (.slice ay4 ny4 ky4) := fun w' hw => (By.ext hw).cell 4
      have yb5 : ∀ w', Ext w9 w' → w'.cell? ⟨_, 5, none⟩ = some (.int .i64 T.State.Lease.Holder) := fun w' hw => (By.ext hw).cell 5
      have yb6 : ∀ w', Ext w9 w' → w'.cell? ⟨_, 6, none⟩ = some (.int .i64 T.State.Lease.Epoch) := fun w' hw => (By.ext hw).cell 6
      have yb7 : ∀ w', Ext w9 w' → w'.cell? ⟨_, 7, none⟩ = some (.int .i64 T.State.Lease.Until) := fun w' hw => (By.ext hw).cell 7
      clear CBa LBa CBb LBb CBw LBw CBx LBx CBy LBy CBg LBg
      go_region_held3 (fun w' => Ext w9 w') (first | exact Ext.drew (Ext.refl _) | exact Ext.trans (by assumption) hx10 | exact Ext.trans (by assumption) hx11) (first | (go_at_call 11; refine (to_Shot (h1.ext (Ext.trans E9 (by assumption))) q1_0 q1_1).mono ?_; rintro e w10 ⟨_, rfl, hx10, Fz, gz⟩; obtain ⟨az3, nz3, kz3, az4, nz4, kz4, rfl⟩ := gz.rd.shape) | (go_at_call 14; refine (eq_Shot ((gy.rd).ext (by assumption)) gz.rd).mono ?_; rintro e w11 ⟨rfl, hx11⟩))
      have X11 : Ext w9 w11 := by assumption
      clear ya0 yb0 ya1 yb1 ya2 yb2 ya3 yb3 ya4 yb4 ya5 yb5 ya6 yb6 ya7 yb7 hx11
      have Z11 := X11.size; have E11 : Ext w w11 := E9.trans X11
      have Ba := Ba.ext X11
      have Bb := Bb.ext X11
      have Bw := Bw.ext X11
      have gw := gw.ext X11
      have gx := gx.ext X11
      have Bx := Bx.ext X11
      have gy := gy.ext X11
      have By := By.ext X11
      have gg := gg.ext X11
      have Bg := Bg.ext X11
      have CBa := Ba.cell; have LBa := Ba.lt
      have CBb := Bb.cell; have LBb := Bb.lt
      have CBw := Bw.cell; have LBw := Bw.lt
      have CBx := Bx.cell; have LBx := Bx.lt
      have CBy := By.cell; have LBy := By.lt
      have CBg := Bg.cell; have LBg := Bg.lt
      as_aux_lemma =>
        go_wp2_with fail
        refine (mark_Disk (gx.ext (by repeat' (first | (with_reducible exact Ext.refl _) | (with_reducible assumption) | (with_reducible refine Ext.drewN ?_ _) | (with_reducible refine Ext.drew ?_) | (with_reducible refine Ext.alloc ?_ _) | (with_reducible refine Ext.setCell ?_ ?_ _) | (with_reducible refine Ext.setRow ?_ ?_ _) | (with_reducible exact Nat.le_refl _) | (with_reducible refine Ext.trans ?_ (by assumption)) | omega))) (by omega) (by have := nx; omega)).mono ?_
        rintro e w12 ⟨rfl, hx12, gxm⟩
        have X12 : Upd w11 w12 Fx := (Ext.upd (by repeat' (first | (with_reducible exact Ext.refl _) | (with_reducible assumption) | (with_reducible refine Ext.drewN ?_ _) | (with_reducible refine Ext.drew ?_) | (with_reducible refine Ext.alloc ?_ _) | (with_reducible refine Ext.setCell ?_ ?_ _) | (with_reducible refine Ext.setRow ?_ ?_ _) | (with_reducible exact Nat.le_refl _) | (with_reducible refine Ext.trans ?_ (by assumption)) | omega)) _).trans hx12
        have Z12 := X12.size
        have E12 : Ext w w12 := E11.upd_below X12 (fun k hk => by have := lx k hk; omega)
        have Ba := Ba.upd X12 (fun hk => by have := lx _ hk; omega)
        have Bb := Bb.upd X12 (fun hk => by have := lx _ hk; omega)
        have Bw := Bw.upd X12 (fun hk => by have := lx _ hk; omega)
        have gw := gw.upd X12 (fun k hk hk' => by have := lx k hk'; have := lw k hk; omega)
        have Bx := Bx.upd X12 (fun hk => by have := lx _ hk; omega)
        have gy := gy.upd X12 (fun k hk hk' => by have := lx k hk'; have := ly k hk; omega)
        have By := By.upd X12 (fun hk => by have := lx _ hk; omega)
        have gg := gg.upd X12 (fun k hk hk' => by have := lx k hk'; have := lg k hk; omega)
        have Bg := Bg.upd X12 (fun hk => by have := lx _ hk; omega)
        obtain ⟨K, hK⟩ : ∃ z : Int, z = 1 + ((nDisk (S) : Nat) : Int) := ⟨_, rfl⟩
        rw [← hK]
        have pK : 0 ≤ K := by omega
        have rK : K ≤ 1000000000 := by have := nx; omega
        have HK := Lib.hid hK
        clear hK
        have dK : decide (K < 0) = false := by simp; omega
        clear hx12
        clear CBa LBa CBb LBb CBw LBw CBx LBx CBy LBy CBg LBg
        have CBa := Ba.cell; have LBa := Ba.lt
        have CBb := Bb.cell; have LBb := Bb.lt
        have CBw := Bw.cell; have LBw := Bw.lt
        have CBx := Bx.cell; have LBx := Bx.lt
        have CBy := By.cell; have LBy := By.lt
        have CBg := Bg.cell; have LBg := Bg.lt
        go_wp2_with fail
        refine (mark_Shot (gy.ext (by repeat' (first | (with_reducible exact Ext.refl _) | (with_reducible assumption) | (with_reducible refine Ext.drewN ?_ _) | (with_reducible refine Ext.drew ?_) | (with_reducible refine Ext.alloc ?_ _) | (with_reducible refine Ext.setCell ?_ ?_ _) | (with_reducible refine Ext.setRow ?_ ?_ _) | (with_reducible exact Nat.le_refl _) | (with_reducible refine Ext.trans ?_ (by assumption)) | omega))) (by omega) (by have := ny; omega)).mono ?_
        rintro e w13 ⟨rfl, hx13, gym⟩
        have X13 : Upd w12 w13 Fy := (Ext.upd (by repeat' (first | (with_reducible exact Ext.refl _) | (with_reducible assumption) | (with_reducible refine Ext.drewN ?_ _) | (with_reducible refine Ext.drew ?_) | (with_reducible refine Ext.alloc ?_ _) | (with_reducible refine Ext.setCell ?_ ?_ _) | (with_reducible refine Ext.setRow ?_ ?_ _) | (with_reducible exact Nat.le_refl _) | (with_reducible refine Ext.trans ?_ (by assumption)) | omega)) _).trans hx13
        have Z13 := X13.size
        have E13 : Ext w w13 := E12.upd_below X13 (fun k hk => by have := ly k hk; omega)
        have Ba := Ba.upd X13 (fun hk => by have := ly _ hk; omega)
        have Bb := Bb.upd X13 (fun hk => by have := ly _ hk; omega)
        have Bw := Bw.upd X13 (fun hk => by have := ly _ hk; omega)
        have gw := gw.upd X13 (fun k hk hk' => by have := ly k hk'; have := lw k hk; omega)
        have Bx := Bx.upd X13 (fun hk => by have := ly _ hk; omega)
        have By := By.upd X13 (fun hk => by have := ly _ hk; omega)
        have gg := gg.upd X13 (fun k hk hk' => by have := ly k hk'; have := lg k hk; omega)
        have Bg := Bg.upd X13 (fun hk => by have := ly _ hk; omega)
        obtain ⟨K2, hK2⟩ : ∃ z : Int, z = K + ((numShot (T) : Nat) : Int) := ⟨_, rfl⟩
        rw [← hK2]
        have pK2 : 0 ≤ K2 := by omega
        have rK2 : K2 ≤ 4000000000 := by have := ny; omega
        have HK2 := Lib.hid hK2
        clear hK2
        have dK2 : decide (K2 < 0) = false := by simp; omega
        clear hx13
        clear CBa LBa CBb LBb CBw LBw CBx LBx CBy LBy CBg LBg
        have CBa := Ba.cell; have LBa := Ba.lt
        have CBb := Bb.cell; have LBb := Bb.lt
        have CBw := Bw.cell; have LBw := Bw.lt
        have CBx := Bx.cell; have LBx := Bx.lt
        have CBy := By.cell; have LBy := By.lt
        have CBg := Bg.cell; have LBg := Bg.lt
        go_wp2_with fail
        refine (eq_Disk ((gg.rd).ext (by repeat' (first | (with_reducible exact Ext.refl _) | (with_reducible assumption) | (with_reducible refine Ext.drewN ?_ _) | (with_reducible refine Ext.drew ?_) | (with_reducible refine Ext.alloc ?_ _) | (with_reducible refine Ext.setCell ?_ ?_ _) | (with_reducible refine Ext.setRow ?_ ?_ _) | (with_reducible exact Nat.le_refl _) | (with_reducible refine Ext.trans ?_ (by assumption)) | omega))) ((gw.rd).ext (by repeat' (first | (with_reducible exact Ext.refl _) | (with_reducible assumption) | (with_reducible refine Ext.drewN ?_ _) | (with_reducible refine Ext.drew ?_) | (with_reducible refine Ext.alloc ?_ _) | (with_reducible refine Ext.setCell ?_ ?_ _) | (with_reducible refine Ext.setRow ?_ ?_ _) | (with_reducible exact Nat.le_refl _) | (with_reducible refine Ext.trans ?_ (by assumption)) | omega)))).mono ?_
        rintro e w14 ⟨rfl, hx14⟩
        have X14 : Ext w13 w14 := by repeat' (first | (with_reducible exact Ext.refl _) | (with_reducible assumption) | (with_reducible refine Ext.drewN ?_ _) | (with_reducible refine Ext.drew ?_) | (with_reducible refine Ext.alloc ?_ _) | (with_reducible refine Ext.setCell ?_ ?_ _) | (with_reducible refine Ext.setRow ?_ ?_ _) | (with_reducible exact Nat.le_refl _) | (with_reducible refine Ext.trans ?_ (by assumption)) | omega)
        have Z14 := X14.size
        have E14 : Ext w w14 := E13.trans X14
        have Ba := Ba.ext X14
        have Bb := Bb.ext X14
        have Bw := Bw.ext X14
        have gw := gw.ext X14
        have Bx := Bx.ext X14
        have By := By.ext X14
        have gg := gg.ext X14
        have Bg := Bg.ext X14
        clear hx14
        clear CBa LBa CBb LBb CBw LBw CBx LBx CBy LBy CBg LBg
        have CBa := Ba.cell; have LBa := Ba.lt
        have CBb := Bb.cell; have LBb := Bb.lt
        have CBw := Bw.cell; have LBw := Bw.lt
        have CBx := Bx.cell; have LBx := Bx.lt
        have CBy := By.cell; have LBy := By.lt
        have CBg := Bg.cell; have LBg := Bg.lt
        go_wp2_with fail
        refine (mark_Disk (gg.ext (by repeat' (first | (with_reducible exact Ext.refl _) | (with_reducible assumption) | (with_reducible refine Ext.drewN ?_ _) | (with_reducible refine Ext.drew ?_) | (with_reducible refine Ext.alloc ?_ _) | (with_reducible refine Ext.setCell ?_ ?_ _) | (with_reducible refine Ext.setRow ?_ ?_ _) | (with_reducible exact Nat.le_refl _) | (with_reducible refine Ext.trans ?_ (by assumption)) | omega))) (by omega) (by have := nb; omega)).mono ?_
        rintro e w15 ⟨rfl, hx15, gm⟩
        have X15 : Upd w14 w15 Fg := (Ext.upd (by repeat' (first | (with_reducible exact Ext.refl _) | (with_reducible assumption) | (with_reducible refine Ext.drewN ?_ _) | (with_reducible refine Ext.drew ?_) | (with_reducible refine Ext.alloc ?_ _) | (with_reducible refine Ext.setCell ?_ ?_ _) | (with_reducible refine Ext.setRow ?_ ?_ _) | (with_reducible exact Nat.le_refl _) | (with_reducible refine Ext.trans ?_ (by assumption)) | omega)) _).trans hx15
        have Z15 := X15.size
        have E15 : Ext w w15 := E14.upd_below X15 (fun k hk => by have := lg k hk; omega)
        have Ba := Ba.upd X15 (fun hk => by have := lg _ hk; omega)
        have Bb := Bb.upd X15 (fun hk => by have := lg _ hk; omega)
        have Bw := Bw.upd X15 (fun hk => by have := lg _ hk; omega)
        have gw := gw.upd X15 (fun k hk hk' => by have := lg k hk'; have := lw k hk; omega)
        have Bx := Bx.upd X15 (fun hk => by have := lg _ hk; omega)
        have By := By.upd X15 (fun hk => by have := lg _ hk; omega)
        have Bg := Bg.upd X15 (fun hk => by have := lg _ hk; omega)
        obtain ⟨N, hN⟩ : ∃ z : Int, z = 1 + ((nDisk (shD S c1_0 T) : Nat) : Int) := ⟨_, rfl⟩
        rw [← hN]
        have pN : 0 ≤ N := by omega
        have rN : N ≤ 1000000000 := by have := nb; omega
        have HN := Lib.hid hN
        clear hN
        have dN : decide (N < 0) = false := by simp; omega
        clear hx15
        clear CBa LBa CBb LBb CBw LBw CBx LBx CBy LBy CBg LBg
        have CBa := Ba.cell; have LBa := Ba.lt
        have CBb := Bb.cell; have LBb := Bb.lt
        have CBw := Bw.cell; have LBw := Bw.lt
        have CBx := Bx.cell; have LBx := Bx.lt
        have CBy := By.cell; have LBy := By.lt
        have CBg := Bg.cell; have LBg := Bg.lt
        go_wp2_with fail
        refine (held_Disk (gm.ext (by repeat' (first | (with_reducible exact Ext.refl _) | (with_reducible assumption) | (with_reducible refine Ext.drewN ?_ _) | (with_reducible refine Ext.drew ?_) | (with_reducible refine Ext.alloc ?_ _) | (with_reducible refine Ext.setCell ?_ ?_ _) | (with_reducible refine Ext.setRow ?_ ?_ _) | (with_reducible exact Nat.le_refl _) | (with_reducible refine Ext.trans ?_ (by assumption)) | omega))) (by omega) (by have := nb; omega)).mono ?_
        rintro e w16 ⟨rfl, hx16⟩
        rw [← HN.out]
        have X16 : Ext w15 w16 := by repeat' (first | (with_reducible exact Ext.refl _) | (with_reducible assumption) | (with_reducible refine Ext.drewN ?_ _) | (with_reducible refine Ext.drew ?_) | (with_reducible refine Ext.alloc ?_ _) | (with_reducible refine Ext.setCell ?_ ?_ _) | (with_reducible refine Ext.setRow ?_ ?_ _) | (with_reducible exact Nat.le_refl _) | (with_reducible refine Ext.trans ?_ (by assumption)) | omega)
        have Z16 := X16.size
        have E16 : Ext w w16 := E15.trans X16
        have Ba := Ba.ext X16
        have Bb := Bb.ext X16
        have Bw := Bw.ext X16
        have gw := gw.ext X16
        have Bx := Bx.ext X16
        have By := By.ext X16
        have Bg := Bg.ext X16
        have gm := gm.ext X16
        clear hx16
        clear CBa LBa CBb LBb CBw LBw CBx LBx CBy LBy CBg LBg
        have CBa := Ba.cell; have LBa := Ba.lt
        have CBb := Bb.cell; have LBb := Bb.lt
        have CBw := Bw.cell; have LBw := Bw.lt
        have CBx := Bx.cell; have LBx := Bx.lt
        have CBy := By.cell; have LBy := By.lt
        have CBg := Bg.cell; have LBg := Bg.lt
        go_wp2_with fail
        have pa0 : w16.cell? ⟨w.heap.size, 0, none⟩ = some (.slice a0_0 n0_0 k0_0) := Ba.cell 0
        have pa1 : w16.cell? ⟨w.heap.size, 1, none⟩ = some (.slice a0_1 n0_1 k0_1) := Ba.cell 1
        have pb0 : w16.cell? ⟨(w.heap.size + 1), 0, none⟩ = some (.int .i64 c2_0) := Bb.cell 0
        have pb1 : w16.cell? ⟨(w.heap.size + 1), 1, none⟩ = some (.int .i64 c2_1) := Bb.cell 1
        have pb2 : w16.cell? ⟨(w.heap.size + 1), 2, none⟩ = some (.int .i64 c2_2) := Bb.cell 2
        have pb3 : w16.cell? ⟨(w.heap.size + 1), 3, none⟩ = some (.slice a2_3 n2_3 k2_3) := Bb.cell 3
        have pb4 : w16.cell? ⟨(w.heap.size + 1), 4, none⟩ = some (.slice a2_4 n2_4 k2_4) := Bb.cell 4
        have pb5 : w16.cell? ⟨(w.heap.size + 1), 5, none⟩ = some (.int .i64 c2_5) := Bb.cell 5
        have pb6 : w16.cell? ⟨(w.heap.size + 1), 6, none⟩ = some (.int .i64 c2_6) := Bb.cell 6
        have pb7 : w16.cell? ⟨(w.heap.size + 1), 7, none⟩ = some (.int .i64 c2_7) := Bb.cell 7
        clear CBa LBa CBb LBb CBw LBw CBx LBx CBy LBy CBg LBg
        go_cut [17, 18] (fun sx bx0 wx => ∃ ah0 nh0 kh0 ah1 nh1 kh1, ∃ gg : Nat, sx = .pointer (some ⟨gg, 0, none⟩) ∧ bx0 = .bool (shOk S c1_0 T) ∧ Ext w16 wx ∧ w16.heap.size ≤ gg ∧ Blk wx gg 38 #[.slice ah0 nh0 kh0, .slice ah1 nh1 kh1] ∧ ∃ F, OwDisk w16.heap.size wx (.agg #[.slice ah0 nh0 kh0, .slice ah1 nh1 kh1]) (shD S c1_0 T) F ∧ (∀ k, k ∈ F → k < wx.heap.size ∧ k ≠ gg))
        case first =>
          refine wp_region_held_drew (S := (fun w' => w'.cell? ⟨w.heap.size, 0, none⟩ = some (.slice a0_0 n0_0 k0_0) ∧ w'.cell? ⟨w.heap.size, 1, none⟩ = some (.slice a0_1 n0_1 k0_1) ∧ w'.cell? ⟨(w.heap.size + 1), 0, none⟩ = some (.int .i64 c2_0) ∧ w'.cell? ⟨(w.heap.size + 1), 1, none⟩ = some (.int .i64 c2_1) ∧ w'.cell? ⟨(w.heap.size + 1), 2, none⟩ = some (.int .i64 c2_2) ∧ w'.cell? ⟨(w.heap.size + 1), 3, none⟩ = some (.slice a2_3 n2_3 k2_3) ∧ w'.cell? ⟨(w.heap.size + 1), 4, none⟩ = some (.slice a2_4 n2_4 k2_4) ∧ w'.cell? ⟨(w.heap.size + 1), 5, none⟩ = some (.int .i64 c2_5) ∧ w'.cell? ⟨(w.heap.size + 1), 6, none⟩ = some (.int .i64 c2_6) ∧ w'.cell? ⟨(w.heap.size + 1), 7, none⟩ = some (.int .i64 c2_7))) (by kernel_rfl) (by (try dsimp only); first | (refine ⟨Ext.cell (w := w16) ?_ pa0, Ext.cell (w := w16) ?_ pa1, Ext.cell (w := w16) ?_ pb0, Ext.cell (w := w16) ?_ pb1, Ext.cell (w := w16) ?_ pb2, Ext.cell (w := w16) ?_ pb3, Ext.cell (w := w16) ?_ pb4, Ext.cell (w := w16) ?_ pb5, Ext.cell (w := w16) ?_ pb6, Ext.cell (w := w16) ?_ pb7⟩ <;> (repeat' (first | (with_reducible exact Ext.refl _) | (with_reducible assumption) | (with_reducible refine Ext.drewN ?_ _) | (with_reducible refine Ext.drew ?_) | (with_reducible refine Ext.alloc ?_ _) | (with_reducible refine Ext.setCell ?_ ?_ _) | (with_reducible refine Ext.setRow ?_ ?_ _) | (with_reducible exact Nat.le_refl _) | (with_reducible refine Ext.trans ?_ (by assumption)) | omega)); done)) (fun hHeld => ?_)
          refine wpAnyH_take (i := 0) (v := ?_) rfl (by kernel_rfl) (by kernel_rfl) (by kernel_rfl) (fun _ _ _ h => h) (Or.inl ⟨by rfl, ?_⟩) (by assumption) ?_
          rotate_left
          focus (intro w hSw; (try dsimp only at hSw); go_simp <;> with_reducible rfl)
          (try simp only [List.getElem_toArray, List.getElem_cons_zero, List.getElem_cons_succ, Act.put, List.setIfInBounds_toArray, List.set_cons_zero, List.set_cons_succ])
          refine wpAnyH_take (i := 2) (v := ?_) rfl (by kernel_rfl) (by kernel_rfl) (by kernel_rfl) (fun _ _ _ h => h) (Or.inl ⟨by rfl, ?_⟩) (by assumption) ?_
          rotate_left
          focus (intro w hSw; (try dsimp only at hSw); go_simp <;> with_reducible rfl)
          (try simp only [List.getElem_toArray, List.getElem_cons_zero, List.getElem_cons_succ, Act.put, List.setIfInBounds_toArray, List.set_cons_zero, List.set_cons_succ])
          refine wpAnyH_take (i := 3) (v := ?_) rfl (by kernel_rfl) (by kernel_rfl) (by kernel_rfl) (fun _ _ _ h => h) (Or.inl ⟨by rfl, ?_⟩) (by assumption) ?_
          rotate_left
          focus (intro w hSw; (try dsimp only at hSw); go_simp <;> with_reducible rfl)
          (try simp only [List.getElem_toArray, List.getElem_cons_zero, List.getElem_cons_succ, Act.put, List.setIfInBounds_toArray, List.set_cons_zero, List.set_cons_succ])
          refine wpAnyH_ready (rs := [1, 9]) (by kernel_rfl) (by simp) ?_
          refine AllReadyH.cons rfl (fun Kz hKz => ?_) (AllReadyH.cons rfl (fun Kz hKz => ?_) AllReadyH.nil)
          · (try simp only [List.getElem_toArray, List.getElem_cons_zero, List.getElem_cons_succ])
            go_simp
            (go_at_call 10; refine (to_Disk (h0.ext (Ext.trans E16 (by repeat' (first | (with_reducible exact Ext.refl _) | (with_reducible assumption) | (with_reducible refine Ext.drewN ?_ _) | (with_reducible refine Ext.drew ?_) | (with_reducible refine Ext.alloc ?_ _) | (with_reducible refine Ext.setCell ?_ ?_ _) | (with_reducible refine Ext.setRow ?_ ?_ _) | (with_reducible exact Nat.le_refl _) | (with_reducible refine Ext.trans ?_ (by assumption)) | omega)))) q0_0 q0_1).mono ?_; rintro e wa ⟨_, rfl, hxwa, F0, g0⟩; obtain ⟨ahp0, nhp0, khp0, ahp1, nhp1, khp1, rfl⟩ := g0.rd.shape; have hzwa := hxwa.size; (try simp only [size_drew, World.size_alloc] at hzwa); have XA : Ext w16 wa := Ext.trans (by repeat' (first | (with_reducible exact Ext.refl _) | (with_reducible assumption) | (with_reducible refine Ext.drewN ?_ _) | (with_reducible refine Ext.drew ?_) | (with_reducible refine Ext.alloc ?_ _) | (with_reducible refine Ext.setCell ?_ ?_ _) | (with_reducible refine Ext.setRow ?_ ?_ _) | (with_reducible exact Nat.le_refl _) | (with_reducible refine Ext.trans ?_ (by assumption)) | omega)) hxwa; (first | (have KU := Blk.ext KU hxwa; have CU := KU.cell; have FU := KU.frozen; have LU := KU.lt) | (have KU : Blk wa w16.heap.size 38 #[.slice none 0 0, .slice none 0 0] := Blk.ext (Blk.new w16.drew _ _) hxwa; have CU := KU.cell; have FU := KU.frozen; have LU := KU.lt) | skip))
            refine hKz.out _ _ (by (try dsimp only); first | (refine ⟨Ext.cell (w := w16) ?_ pa0, Ext.cell (w := w16) ?_ pa1, Ext.cell (w := w16) ?_ pb0, Ext.cell (w := w16) ?_ pb1, Ext.cell (w := w16) ?_ pb2, Ext.cell (w := w16) ?_ pb3, Ext.cell (w := w16) ?_ pb4, Ext.cell (w := w16) ?_ pb5, Ext.cell (w := w16) ?_ pb6, Ext.cell (w := w16) ?_ pb7⟩ <;> (repeat' (first | (with_reducible exact Ext.refl _) | (with_reducible assumption) | (with_reducible refine Ext.drewN ?_ _) | (with_reducible refine Ext.drew ?_) | (with_reducible refine Ext.alloc ?_ _) | (with_reducible refine Ext.setCell ?_ ?_ _) | (with_reducible refine Ext.setRow ?_ ?_ _) | (with_reducible exact Nat.le_refl _) | (with_reducible refine Ext.trans ?_ (by assumption)) | omega)); done)) (fun hHeld => ?_)
            clear hKz Kz
            (try simp only [List.getElem_toArray, List.getElem_cons_zero, List.getElem_cons_succ, Act.put, List.setIfInBounds_toArray, List.set_cons_zero, List.set_cons_succ])
            refine wpAnyH_ready (rs := [4, 9]) (by kernel_rfl) (by simp) ?_
            refine AllReadyH.cons rfl (fun Kz hKz => ?_) (AllReadyH.cons rfl (fun Kz hKz => ?_) AllReadyH.nil)
            · (try simp only [List.getElem_toArray, List.getElem_cons_zero, List.getElem_cons_succ])
              go_simp
              (go_at_call 11; refine (to_Shot (h1.ext (Ext.trans E16 (by repeat' (first | (with_reducible exact Ext.refl _) | (with_reducible assumption) | (with_reducible refine Ext.drewN ?_ _) | (with_reducible refine Ext.drew ?_) | (with_reducible refine Ext.alloc ?_ _) | (with_reducible refine Ext.setCell ?_ ?_ _) | (with_reducible refine Ext.setRow ?_ ?_ _) | (with_reducible exact Nat.le_refl _) | (with_reducible refine Ext.trans ?_ (by assumption)) | omega)))) q1_0 q1_1).mono ?_; rintro e wb ⟨_, rfl, hxwb, F1, g1⟩; obtain ⟨ahq3, nhq3, khq3, ahq4, nhq4, khq4, rfl⟩ := g1.rd.shape; have hzwb := hxwb.size; (try simp only [size_drew, World.size_alloc] at hzwb); have XAB : Ext wa wb := Ext.trans (by repeat' (first | (with_reducible exact Ext.refl _) | (with_reducible assumption) | (with_reducible refine Ext.drewN ?_ _) | (with_reducible refine Ext.drew ?_) | (with_reducible refine Ext.alloc ?_ _) | (with_reducible refine Ext.setCell ?_ ?_ _) | (with_reducible refine Ext.setRow ?_ ?_ _) | (with_reducible exact Nat.le_refl _) | (with_reducible refine Ext.trans ?_ (by assumption)) | omega)) hxwb; have XB : Ext w16 wb := XA.trans XAB; (first | (have KU := Blk.ext KU hxwb; have CU := KU.cell; have FU := KU.frozen; have LU := KU.lt) | (have KU : Blk wb wa.heap.size 38 #[.slice none 0 0, .slice none 0 0] := Blk.ext (Blk.new wa _ _) hxwb; have CU := KU.cell; have FU := KU.frozen; have LU := KU.lt) | skip))
              refine hKz.out _ _ (by (try dsimp only); first | (refine ⟨Ext.cell (w := w16) ?_ pa0, Ext.cell (w := w16) ?_ pa1, Ext.cell (w := w16) ?_ pb0, Ext.cell (w := w16) ?_ pb1, Ext.cell (w := w16) ?_ pb2, Ext.cell (w := w16) ?_ pb3, Ext.cell (w := w16) ?_ pb4, Ext.cell (w := w16) ?_ pb5, Ext.cell (w := w16) ?_ pb6, Ext.cell (w := w16) ?_ pb7⟩ <;> (repeat' (first | (with_reducible exact Ext.refl _) | (with_reducible assumption) | (with_reducible refine Ext.drewN ?_ _) | (with_reducible refine Ext.drew ?_) | (with_reducible refine Ext.alloc ?_ _) | (with_reducible refine Ext.setCell ?_ ?_ _) | (with_reducible refine Ext.setRow ?_ ?_ _) | (with_reducible exact Nat.le_refl _) | (with_reducible refine Ext.trans ?_ (by assumption)) | omega)); done)) (fun hHeld => ?_)
              clear hKz Kz
              (try simp only [List.getElem_toArray, List.getElem_cons_zero, List.getElem_cons_succ, Act.put, List.setIfInBounds_toArray, List.set_cons_zero, List.set_cons_succ])
              refine wpAnyH_ready (rs := [5, 9]) (by kernel_rfl) (by simp) ?_
              refine AllReadyH.cons rfl (fun Kz hKz => ?_) (AllReadyH.cons rfl (fun Kz hKz => ?_) AllReadyH.nil)
              · (try simp only [List.getElem_toArray, List.getElem_cons_zero, List.getElem_cons_succ])
                go_simp
                (go_at_call 12; refine (shotWrote_k ((g0.rd).ext (Ext.trans XAB (by repeat' (first | (with_reducible exact Ext.refl _) | (with_reducible assumption) | (with_reducible refine Ext.drewN ?_ _) | (with_reducible refine Ext.drew ?_) | (with_reducible refine Ext.alloc ?_ _) | (with_reducible refine Ext.setCell ?_ ?_ _) | (with_reducible refine Ext.setRow ?_ ?_ _) | (with_reducible exact Nat.le_refl _) | (with_reducible refine Ext.trans ?_ (by assumption)) | omega)))) ((g1.rd).ext (by repeat' (first | (with_reducible exact Ext.refl _) | (with_reducible assumption) | (with_reducible refine Ext.drewN ?_ _) | (with_reducible refine Ext.drew ?_) | (with_reducible refine Ext.alloc ?_ _) | (with_reducible refine Ext.setCell ?_ ?_ _) | (with_reducible refine Ext.setRow ?_ ?_ _) | (with_reducible exact Nat.le_refl _) | (with_reducible refine Ext.trans ?_ (by assumption)) | omega))) c1_0).mono ?_; rintro e wc ⟨_, rfl, hxwc, vr, rfl, Fr, gr⟩; obtain ⟨ah0, nh0, kh0, ah1, nh1, kh1, rfl⟩ := gr.rd.shape; have hzwc := hxwc.size; (try simp only [size_drew, World.size_alloc] at hzwc); have XBC : Ext wb wc := Ext.trans (by repeat' (first | (with_reducible exact Ext.refl _) | (with_reducible assumption) | (with_reducible refine Ext.drewN ?_ _) | (with_reducible refine Ext.drew ?_) | (with_reducible refine Ext.alloc ?_ _) | (with_reducible refine Ext.setCell ?_ ?_ _) | (with_reducible refine Ext.setRow ?_ ?_ _) | (with_reducible exact Nat.le_refl _) | (with_reducible refine Ext.trans ?_ (by assumption)) | omega)) hxwc; have XC : Ext w16 wc := XB.trans XBC; have lr := gr.low; (try simp only [size_drew, World.size_alloc] at lr); (first | (have KU := Blk.ext KU hxwc; have CU := KU.cell; have FU := KU.frozen; have LU := KU.lt) | (have KU : Blk wc wb.heap.size 38 #[.slice none 0 0, .slice none 0 0] := Blk.ext (Blk.new wb _ _) hxwc; have CU := KU.cell; have FU := KU.frozen; have LU := KU.lt) | skip))
                refine hKz.out _ _ (by (try dsimp only); first | (refine ⟨Ext.cell (w := w16) ?_ pa0, Ext.cell (w := w16) ?_ pa1, Ext.cell (w := w16) ?_ pb0, Ext.cell (w := w16) ?_ pb1, Ext.cell (w := w16) ?_ pb2, Ext.cell (w := w16) ?_ pb3, Ext.cell (w := w16) ?_ pb4, Ext.cell (w := w16) ?_ pb5, Ext.cell (w := w16) ?_ pb6, Ext.cell (w := w16) ?_ pb7⟩ <;> (repeat' (first | (with_reducible exact Ext.refl _) | (with_reducible assumption) | (with_reducible refine Ext.drewN ?_ _) | (with_reducible refine Ext.drew ?_) | (with_reducible refine Ext.alloc ?_ _) | (with_reducible refine Ext.setCell ?_ ?_ _) | (with_reducible refine Ext.setRow ?_ ?_ _) | (with_reducible exact Nat.le_refl _) | (with_reducible refine Ext.trans ?_ (by assumption)) | omega)); done)) (fun hHeld => ?_)
                clear hKz Kz
                (try simp only [List.getElem_toArray, List.getElem_cons_zero, List.getElem_cons_succ, Act.put, List.setIfInBounds_toArray, List.set_cons_zero, List.set_cons_succ])
                refine wpAnyH_take (i := 6) (v := ?_) rfl (by kernel_rfl) (by kernel_rfl) (by kernel_rfl) (fun _ _ _ h => h) (Or.inl ⟨by rfl, ?_⟩) (by assumption) ?_
                rotate_left
                focus (intro w hSw; (try dsimp only at hSw); go_simp <;> with_reducible rfl)
                (try simp only [List.getElem_toArray, List.getElem_cons_zero, List.getElem_cons_succ, Act.put, List.setIfInBounds_toArray, List.set_cons_zero, List.set_cons_succ])
                refine wpAnyH_take (i := 7) (v := ?_) rfl (by kernel_rfl) (by kernel_rfl) (by kernel_rfl) (fun _ _ _ h => h) (Or.inl ⟨by rfl, ?_⟩) (by assumption) ?_
                rotate_left
                focus (intro w hSw; (try dsimp only at hSw); go_simp <;> with_reducible rfl)
                (try simp only [List.getElem_toArray, List.getElem_cons_zero, List.getElem_cons_succ, Act.put, List.setIfInBounds_toArray, List.set_cons_zero, List.set_cons_succ])
                refine wpAnyH_take (i := 8) (v := ?_) rfl (by kernel_rfl) (by kernel_rfl) (by kernel_rfl) (fun _ _ _ h => h) (Or.inl ⟨by rfl, ?_⟩) (by assumption) ?_
                rotate_left
                focus (intro w hSw; (try dsimp only at hSw); go_simp <;> with_reducible rfl)
                (try simp only [List.getElem_toArray, List.getElem_cons_zero, List.getElem_cons_succ, Act.put, List.setIfInBounds_toArray, List.set_cons_zero, List.set_cons_succ])
                refine wpAnyH_ready (rs := [9]) (by kernel_rfl) (by simp) ?_
                refine AllReadyH.cons rfl (fun Kz hKz => ?_) AllReadyH.nil
                (try simp only [List.getElem_toArray, List.getElem_cons_zero, List.getElem_cons_succ])
                go_simp
                refine hKz.out _ _ (by (try dsimp only); first | (refine ⟨Ext.cell (w := w16) ?_ pa0, Ext.cell (w := w16) ?_ pa1, Ext.cell (w := w16) ?_ pb0, Ext.cell (w := w16) ?_ pb1, Ext.cell (w := w16) ?_ pb2, Ext.cell (w := w16) ?_ pb3, Ext.cell (w := w16) ?_ pb4, Ext.cell (w := w16) ?_ pb5, Ext.cell (w := w16) ?_ pb6, Ext.cell (w := w16) ?_ pb7⟩ <;> (repeat' (first | (with_reducible exact Ext.refl _) | (with_reducible assumption) | (with_reducible refine Ext.drewN ?_ _) | (with_reducible refine Ext.drew ?_) | (with_reducible refine Ext.alloc ?_ _) | (with_reducible refine Ext.setCell ?_ ?_ _) | (with_reducible refine Ext.setRow ?_ ?_ _) | (with_reducible exact Nat.le_refl _) | (with_reducible refine Ext.trans ?_ (by assumption)) | omega)); done)) (fun hHeld => ?_)
                clear hKz Kz
                (try simp only [List.getElem_toArray, List.getElem_cons_zero, List.getElem_cons_succ, Act.put, List.setIfInBounds_toArray, List.set_cons_zero, List.set_cons_succ])
                refine wpAnyH_ready (rs := [10]) (by kernel_rfl) (by simp) ?_
                refine AllReadyH.cons rfl (fun Kz hKz => ?_) AllReadyH.nil
                (try simp only [List.getElem_toArray, List.getElem_cons_zero, List.getElem_cons_succ])
                go_simp
                refine hKz.out _ _ (by (try dsimp only); first | (refine ⟨Ext.cell (w := w16) ?_ pa0, Ext.cell (w := w16) ?_ pa1, Ext.cell (w := w16) ?_ pb0, Ext.cell (w := w16) ?_ pb1, Ext.cell (w := w16) ?_ pb2, Ext.cell (w := w16) ?_ pb3, Ext.cell (w := w16) ?_ pb4, Ext.cell (w := w16) ?_ pb5, Ext.cell (w := w16) ?_ pb6, Ext.cell (w := w16) ?_ pb7⟩ <;> (repeat' (first | (with_reducible exact Ext.refl _) | (with_reducible assumption) | (with_reducible refine Ext.drewN ?_ _) | (with_reducible refine Ext.drew ?_) | (with_reducible refine Ext.alloc ?_ _) | (with_reducible refine Ext.setCell ?_ ?_ _) | (with_reducible refine Ext.setRow ?_ ?_ _) | (with_reducible exact Nat.le_refl _) | (with_reducible refine Ext.trans ?_ (by assumption)) | omega)); done)) (fun hHeld => ?_)
                clear hKz Kz
                (try simp only [List.getElem_toArray, List.getElem_cons_zero, List.getElem_cons_succ, Act.put, List.setIfInBounds_toArray, List.set_cons_zero, List.set_cons_succ])
                refine wpAnyH_take (i := 11) (v := ?_) rfl (by kernel_rfl) (by kernel_rfl) (by kernel_rfl) (fun _ _ _ h => h) (Or.inl ⟨by rfl, ?_⟩) (by assumption) ?_
                rotate_left
                focus (intro w hSw; (try dsimp only at hSw); go_simp <;> with_reducible rfl)
                (try simp only [List.getElem_toArray, List.getElem_cons_zero, List.getElem_cons_succ, Act.put, List.setIfInBounds_toArray, List.set_cons_zero, List.set_cons_succ])
                refine wpAnyH_done (by kernel_rfl) ?_ _
                go_wp2_with fail
                go_meet
                case rel =>
                  (try simp only [World.size_alloc, size_drew])
                  first
                    | (exact ⟨_, _, _, _, _, _, _, rfl, (by first | rfl | trivial), XC.alloc _, XC.size, Blk.new _ _ _, Fr, (gr.ext ((Ext.refl _).alloc _)).keep (Chg.refl _ _) (by first | omega | (simp only [World.size_alloc, size_drew]; omega)), fun k hk => ⟨by have := lr k hk; (try simp only [World.size_alloc]); omega, by have := lr k hk; omega⟩⟩)
                    | (exact ⟨_, _, _, _, _, _, w16.heap.size, rfl, (by first | rfl | trivial), (Ext.setCell (Ext.setCell XC (by omega) _) (by omega) _), by omega, by (have := (Blk.set_ (Blk.set_ KU 0 (.slice ah0 nh0 kh0)) 1 (.slice ah1 nh1 kh1)); simpa using this), Fr, OwDisk.keep ((gr.box KU 0 _).box (Blk.set_ KU 0 _) 1 _) (Chg.refl _ _) (by first | omega | (simp only [World.size_alloc, size_drew]; omega)), fun k hk => ⟨by have := lr k hk; (try simp only [World.size_setCell]); omega, by have := lr k hk; omega⟩⟩)
                    | (exact ⟨_, _, _, _, _, _, wa.heap.size, rfl, (by first | rfl | trivial), (Ext.setCell (Ext.setCell XC (by omega) _) (by omega) _), by omega, by (have := (Blk.set_ (Blk.set_ KU 0 (.slice ah0 nh0 kh0)) 1 (.slice ah1 nh1 kh1)); simpa using this), Fr, OwDisk.keep ((gr.box KU 0 _).box (Blk.set_ KU 0 _) 1 _) (Chg.refl _ _) (by first | omega | (simp only [World.size_alloc, size_drew]; omega)), fun k hk => ⟨by have := lr k hk; (try simp only [World.size_setCell]); omega, by have := lr k hk; omega⟩⟩)
                    | (exact ⟨_, _, _, _, _, _, wb.heap.size, rfl, (by first | rfl | trivial), (Ext.setCell (Ext.setCell XC (by omega) _) (by omega) _), by omega, by (have := (Blk.set_ (Blk.set_ KU 0 (.slice ah0 nh0 kh0)) 1 (.slice ah1 nh1 kh1)); simpa using this), Fr, OwDisk.keep ((gr.box KU 0 _).box (Blk.set_ KU 0 _) 1 _) (Chg.refl _ _) (by first | omega | (simp only [World.size_alloc, size_drew]; omega)), fun k hk => ⟨by have := lr k hk; (try simp only [World.size_setCell]); omega, by have := lr k hk; omega⟩⟩)
              · (try simp only [List.getElem_toArray, List.getElem_cons_zero, List.getElem_cons_succ])
                go_simp
                refine hKz.out _ _ (by (try dsimp only); first | (refine ⟨Ext.cell (w := w16) ?_ pa0, Ext.cell (w := w16) ?_ pa1, Ext.cell (w := w16) ?_ pb0, Ext.cell (w := w16) ?_ pb1, Ext.cell (w := w16) ?_ pb2, Ext.cell (w := w16) ?_ pb3, Ext.cell (w := w16) ?_ pb4, Ext.cell (w := w16) ?_ pb5, Ext.cell (w := w16) ?_ pb6, Ext.cell (w := w16) ?_ pb7⟩ <;> (repeat' (first | (with_reducible exact Ext.refl _) | (with_reducible assumption) | (with_reducible refine Ext.drewN ?_ _) | (with_reducible refine Ext.drew ?_) | (with_reducible refine Ext.alloc ?_ _) | (with_reducible refine Ext.setCell ?_ ?_ _) | (with_reducible refine Ext.setRow ?_ ?_ _) | (with_reducible exact Nat.le_refl _) | (with_reducible refine Ext.trans ?_ (by assumption)) | omega)); done)) (fun hHeld => ?_)
                clear hKz Kz
                (try simp only [List.getElem_toArray, List.getElem_cons_zero, List.getElem_cons_succ, Act.put, List.setIfInBounds_toArray, List.set_cons_zero, List.set_cons_succ])
                refine wpAnyH_ready (rs := [5]) (by kernel_rfl) (by simp) ?_
                refine AllReadyH.cons rfl (fun Kz hKz => ?_) AllReadyH.nil
                (try simp only [List.getElem_toArray, List.getElem_cons_zero, List.getElem_cons_succ])
                go_simp
                (go_at_call 12; refine (shotWrote_k ((g0.rd).ext (Ext.trans XAB (by repeat' (first | (with_reducible exact Ext.refl _) | (with_reducible assumption) | (with_reducible refine Ext.drewN ?_ _) | (with_reducible refine Ext.drew ?_) | (with_reducible refine Ext.alloc ?_ _) | (with_reducible refine Ext.setCell ?_ ?_ _) | (with_reducible refine Ext.setRow ?_ ?_ _) | (with_reducible exact Nat.le_refl _) | (with_reducible refine Ext.trans ?_ (by assumption)) | omega)))) ((g1.rd).ext (by repeat' (first | (with_reducible exact Ext.refl _) | (with_reducible assumption) | (with_reducible refine Ext.drewN ?_ _) | (with_reducible refine Ext.drew ?_) | (with_reducible refine Ext.alloc ?_ _) | (with_reducible refine Ext.setCell ?_ ?_ _) | (with_reducible refine Ext.setRow ?_ ?_ _) | (with_reducible exact Nat.le_refl _) | (with_reducible refine Ext.trans ?_ (by assumption)) | omega))) c1_0).mono ?_; rintro e wc ⟨_, rfl, hxwc, vr, rfl, Fr, gr⟩; obtain ⟨ah0, nh0, kh0, ah1, nh1, kh1, rfl⟩ := gr.rd.shape; have hzwc := hxwc.size; (try simp only [size_drew, World.size_alloc] at hzwc); have XBC : Ext wb wc := Ext.trans (by repeat' (first | (with_reducible exact Ext.refl _) | (with_reducible assumption) | (with_reducible refine Ext.drewN ?_ _) | (with_reducible refine Ext.drew ?_) | (with_reducible refine Ext.alloc ?_ _) | (with_reducible refine Ext.setCell ?_ ?_ _) | (with_reducible refine Ext.setRow ?_ ?_ _) | (with_reducible exact Nat.le_refl _) | (with_reducible refine Ext.trans ?_ (by assumption)) | omega)) hxwc; have XC : Ext w16 wc := XB.trans XBC; have lr := gr.low; (try simp only [size_drew, World.size_alloc] at lr); (first | (have KU := Blk.ext KU hxwc; have CU := KU.cell; have FU := KU.frozen; have LU := KU.lt) | (have KU : Blk wc wb.heap.size 38 #[.slice none 0 0, .slice none 0 0] := Blk.ext (Blk.new wb _ _) hxwc; have CU := KU.cell; have FU := KU.frozen; have LU := KU.lt) | skip))
                refine hKz.out _ _ (by (try dsimp only); first | (refine ⟨Ext.cell (w := w16) ?_ pa0, Ext.cell (w := w16) ?_ pa1, Ext.cell (w := w16) ?_ pb0, Ext.cell (w := w16) ?_ pb1, Ext.cell (w := w16) ?_ pb2, Ext.cell (w := w16) ?_ pb3, Ext.cell (w := w16) ?_ pb4, Ext.cell (w := w16) ?_ pb5, Ext.cell (w := w16) ?_ pb6, Ext.cell (w := w16) ?_ pb7⟩ <;> (repeat' (first | (with_reducible exact Ext.refl _) | (with_reducible assumption) | (with_reducible refine Ext.drewN ?_ _) | (with_reducible refine Ext.drew ?_) | (with_reducible refine Ext.alloc ?_ _) | (with_reducible refine Ext.setCell ?_ ?_ _) | (with_reducible refine Ext.setRow ?_ ?_ _) | (with_reducible exact Nat.le_refl _) | (with_reducible refine Ext.trans ?_ (by assumption)) | omega)); done)) (fun hHeld => ?_)
                clear hKz Kz
                (try simp only [List.getElem_toArray, List.getElem_cons_zero, List.getElem_cons_succ, Act.put, List.setIfInBounds_toArray, List.set_cons_zero, List.set_cons_succ])
                refine wpAnyH_take (i := 6) (v := ?_) rfl (by kernel_rfl) (by kernel_rfl) (by kernel_rfl) (fun _ _ _ h => h) (Or.inl ⟨by rfl, ?_⟩) (by assumption) ?_
                rotate_left
                focus (intro w hSw; (try dsimp only at hSw); go_simp <;> with_reducible rfl)
                (try simp only [List.getElem_toArray, List.getElem_cons_zero, List.getElem_cons_succ, Act.put, List.setIfInBounds_toArray, List.set_cons_zero, List.set_cons_succ])
                refine wpAnyH_take (i := 7) (v := ?_) rfl (by kernel_rfl) (by kernel_rfl) (by kernel_rfl) (fun _ _ _ h => h) (Or.inl ⟨by rfl, ?_⟩) (by assumption) ?_
                rotate_left
                focus (intro w hSw; (try dsimp only at hSw); go_simp <;> with_reducible rfl)
                (try simp only [List.getElem_toArray, List.getElem_cons_zero, List.getElem_cons_succ, Act.put, List.setIfInBounds_toArray, List.set_cons_zero, List.set_cons_succ])
                refine wpAnyH_take (i := 8) (v := ?_) rfl (by kernel_rfl) (by kernel_rfl) (by kernel_rfl) (fun _ _ _ h => h) (Or.inl ⟨by rfl, ?_⟩) (by assumption) ?_
                rotate_left
                focus (intro w hSw; (try dsimp only at hSw); go_simp <;> with_reducible rfl)
                (try simp only [List.getElem_toArray, List.getElem_cons_zero, List.getElem_cons_succ, Act.put, List.setIfInBounds_toArray, List.set_cons_zero, List.set_cons_succ])
                refine wpAnyH_ready (rs := [10]) (by kernel_rfl) (by simp) ?_
                refine AllReadyH.cons rfl (fun Kz hKz => ?_) AllReadyH.nil
                (try simp only [List.getElem_toArray, List.getElem_cons_zero, List.getElem_cons_succ])
                go_simp
                refine hKz.out _ _ (by (try dsimp only); first | (refine ⟨Ext.cell (w := w16) ?_ pa0, Ext.cell (w := w16) ?_ pa1, Ext.cell (w := w16) ?_ pb0, Ext.cell (w := w16) ?_ pb1, Ext.cell (w := w16) ?_ pb2, Ext.cell (w := w16) ?_ pb3, Ext.cell (w := w16) ?_ pb4, Ext.cell (w := w16) ?_ pb5, Ext.cell (w := w16) ?_ pb6, Ext.cell (w := w16) ?_ pb7⟩ <;> (repeat' (first | (with_reducible exact Ext.refl _) | (with_reducible assumption) | (with_reducible refine Ext.drewN ?_ _) | (with_reducible refine Ext.drew ?_) | (with_reducible refine Ext.alloc ?_ _) | (with_reducible refine Ext.setCell ?_ ?_ _) | (with_reducible refine Ext.setRow ?_ ?_ _) | (with_reducible exact Nat.le_refl _) | (with_reducible refine Ext.trans ?_ (by assumption)) | omega)); done)) (fun hHeld => ?_)
                clear hKz Kz
                (try simp only [List.getElem_toArray, List.getElem_cons_zero, List.getElem_cons_succ, Act.put, List.setIfInBounds_toArray, List.set_cons_zero, List.set_cons_succ])
                refine wpAnyH_take (i := 11) (v := ?_) rfl (by kernel_rfl) (by kernel_rfl) (by kernel_rfl) (fun _ _ _ h => h) (Or.inl ⟨by rfl, ?_⟩) (by assumption) ?_
                rotate_left
                focus (intro w hSw; (try dsimp only at hSw); go_simp <;> with_reducible rfl)
                (try simp only [List.getElem_toArray, List.getElem_cons_zero, List.getElem_cons_succ, Act.put, List.setIfInBounds_toArray, List.set_cons_zero, List.set_cons_succ])
                refine wpAnyH_done (by kernel_rfl) ?_ _
                go_wp2_with fail
                go_meet
                case rel =>
                  (try simp only [World.size_alloc, size_drew])
                  first
                    | (exact ⟨_, _, _, _, _, _, _, rfl, (by first | rfl | trivial), XC.alloc _, XC.size, Blk.new _ _ _, Fr, (gr.ext ((Ext.refl _).alloc _)).keep (Chg.refl _ _) (by first | omega | (simp only [World.size_alloc, size_drew]; omega)), fun k hk => ⟨by have := lr k hk; (try simp only [World.size_alloc]); omega, by have := lr k hk; omega⟩⟩)
                    | (exact ⟨_, _, _, _, _, _, w16.heap.size, rfl, (by first | rfl | trivial), (Ext.setCell (Ext.setCell XC (by omega) _) (by omega) _), by omega, by (have := (Blk.set_ (Blk.set_ KU 0 (.slice ah0 nh0 kh0)) 1 (.slice ah1 nh1 kh1)); simpa using this), Fr, OwDisk.keep ((gr.box KU 0 _).box (Blk.set_ KU 0 _) 1 _) (Chg.refl _ _) (by first | omega | (simp only [World.size_alloc, size_drew]; omega)), fun k hk => ⟨by have := lr k hk; (try simp only [World.size_setCell]); omega, by have := lr k hk; omega⟩⟩)
                    | (exact ⟨_, _, _, _, _, _, wa.heap.size, rfl, (by first | rfl | trivial), (Ext.setCell (Ext.setCell XC (by omega) _) (by omega) _), by omega, by (have := (Blk.set_ (Blk.set_ KU 0 (.slice ah0 nh0 kh0)) 1 (.slice ah1 nh1 kh1)); simpa using this), Fr, OwDisk.keep ((gr.box KU 0 _).box (Blk.set_ KU 0 _) 1 _) (Chg.refl _ _) (by first | omega | (simp only [World.size_alloc, size_drew]; omega)), fun k hk => ⟨by have := lr k hk; (try simp only [World.size_setCell]); omega, by have := lr k hk; omega⟩⟩)
                    | (exact ⟨_, _, _, _, _, _, wb.heap.size, rfl, (by first | rfl | trivial), (Ext.setCell (Ext.setCell XC (by omega) _) (by omega) _), by omega, by (have := (Blk.set_ (Blk.set_ KU 0 (.slice ah0 nh0 kh0)) 1 (.slice ah1 nh1 kh1)); simpa using this), Fr, OwDisk.keep ((gr.box KU 0 _).box (Blk.set_ KU 0 _) 1 _) (Chg.refl _ _) (by first | omega | (simp only [World.size_alloc, size_drew]; omega)), fun k hk => ⟨by have := lr k hk; (try simp only [World.size_setCell]); omega, by have := lr k hk; omega⟩⟩)
            · (try simp only [List.getElem_toArray, List.getElem_cons_zero, List.getElem_cons_succ])
              go_simp
              refine hKz.out _ _ (by (try dsimp only); first | (refine ⟨Ext.cell (w := w16) ?_ pa0, Ext.cell (w := w16) ?_ pa1, Ext.cell (w := w16) ?_ pb0, Ext.cell (w := w16) ?_ pb1, Ext.cell (w := w16) ?_ pb2, Ext.cell (w := w16) ?_ pb3, Ext.cell (w := w16) ?_ pb4, Ext.cell (w := w16) ?_ pb5, Ext.cell (w := w16) ?_ pb6, Ext.cell (w := w16) ?_ pb7⟩ <;> (repeat' (first | (with_reducible exact Ext.refl _) | (with_reducible assumption) | (with_reducible refine Ext.drewN ?_ _) | (with_reducible refine Ext.drew ?_) | (with_reducible refine Ext.alloc ?_ _) | (with_reducible refine Ext.setCell ?_ ?_ _) | (with_reducible refine Ext.setRow ?_ ?_ _) | (with_reducible exact Nat.le_refl _) | (with_reducible refine Ext.trans ?_ (by assumption)) | omega)); done)) (fun hHeld => ?_)
              clear hKz Kz
              (try simp only [List.getElem_toArray, List.getElem_cons_zero, List.getElem_cons_succ, Act.put, List.setIfInBounds_toArray, List.set_cons_zero, List.set_cons_succ])
              refine wpAnyH_ready (rs := [4]) (by kernel_rfl) (by simp) ?_
              refine AllReadyH.cons rfl (fun Kz hKz => ?_) AllReadyH.nil
              (try simp only [List.getElem_toArray, List.getElem_cons_zero, List.getElem_cons_succ])
              go_simp
              (go_at_call 11; refine (to_Shot (h1.ext (Ext.trans E16 (by repeat' (first | (with_reducible exact Ext.refl _) | (with_reducible assumption) | (with_reducible refine Ext.drewN ?_ _) | (with_reducible refine Ext.drew ?_) | (with_reducible refine Ext.alloc ?_ _) | (with_reducible refine Ext.setCell ?_ ?_ _) | (with_reducible refine Ext.setRow ?_ ?_ _) | (with_reducible exact Nat.le_refl _) | (with_reducible refine Ext.trans ?_ (by assumption)) | omega)))) q1_0 q1_1).mono ?_; rintro e wb ⟨_, rfl, hxwb, F1, g1⟩; obtain ⟨ahq3, nhq3, khq3, ahq4, nhq4, khq4, rfl⟩ := g1.rd.shape; have hzwb := hxwb.size; (try simp only [size_drew, World.size_alloc] at hzwb); have XAB : Ext wa wb := Ext.trans (by repeat' (first | (with_reducible exact Ext.refl _) | (with_reducible assumption) | (with_reducible refine Ext.drewN ?_ _) | (with_reducible refine Ext.drew ?_) | (with_reducible refine Ext.alloc ?_ _) | (with_reducible refine Ext.setCell ?_ ?_ _) | (with_reducible refine Ext.setRow ?_ ?_ _) | (with_reducible exact Nat.le_refl _) | (with_reducible refine Ext.trans ?_ (by assumption)) | omega)) hxwb; have XB : Ext w16 wb := XA.trans XAB; (first | (have KU := Blk.ext KU hxwb; have CU := KU.cell; have FU := KU.frozen; have LU := KU.lt) | (have KU : Blk wb wa.heap.size 38 #[.slice none 0 0, .slice none 0 0] := Blk.ext (Blk.new wa _ _) hxwb; have CU := KU.cell; have FU := KU.frozen; have LU := KU.lt) | skip))
              refine hKz.out _ _ (by (try dsimp only); first | (refine ⟨Ext.cell (w := w16) ?_ pa0, Ext.cell (w := w16) ?_ pa1, Ext.cell (w := w16) ?_ pb0, Ext.cell (w := w16) ?_ pb1, Ext.cell (w := w16) ?_ pb2, Ext.cell (w := w16) ?_ pb3, Ext.cell (w := w16) ?_ pb4, Ext.cell (w := w16) ?_ pb5, Ext.cell (w := w16) ?_ pb6, Ext.cell (w := w16) ?_ pb7⟩ <;> (repeat' (first | (with_reducible exact Ext.refl _) | (with_reducible assumption) | (with_reducible refine Ext.drewN ?_ _) | (with_reducible refine Ext.drew ?_) | (with_reducible refine Ext.alloc ?_ _) | (with_reducible refine Ext.setCell ?_ ?_ _) | (with_reducible refine Ext.setRow ?_ ?_ _) | (with_reducible exact Nat.le_refl _) | (with_reducible refine Ext.trans ?_ (by assumption)) | omega)); done)) (fun hHeld => ?_)
              clear hKz Kz
              (try simp only [List.getElem_toArray, List.getElem_cons_zero, List.getElem_cons_succ, Act.put, List.setIfInBounds_toArray, List.set_cons_zero, List.set_cons_succ])
              refine wpAnyH_ready (rs := [5]) (by kernel_rfl) (by simp) ?_
              refine AllReadyH.cons rfl (fun Kz hKz => ?_) AllReadyH.nil
              (try simp only [List.getElem_toArray, List.getElem_cons_zero, List.getElem_cons_succ])
              go_simp
              (go_at_call 12; refine (shotWrote_k ((g0.rd).ext (Ext.trans XAB (by repeat' (first | (with_reducible exact Ext.refl _) | (with_reducible assumption) | (with_reducible refine Ext.drewN ?_ _) | (with_reducible refine Ext.drew ?_) | (with_reducible refine Ext.alloc ?_ _) | (with_reducible refine Ext.setCell ?_ ?_ _) | (with_reducible refine Ext.setRow ?_ ?_ _) | (with_reducible exact Nat.le_refl _) | (with_reducible refine Ext.trans ?_ (by assumption)) | omega)))) ((g1.rd).ext (by repeat' (first | (with_reducible exact Ext.refl _) | (with_reducible assumption) | (with_reducible refine Ext.drewN ?_ _) | (with_reducible refine Ext.drew ?_) | (with_reducible refine Ext.alloc ?_ _) | (with_reducible refine Ext.setCell ?_ ?_ _) | (with_reducible refine Ext.setRow ?_ ?_ _) | (with_reducible exact Nat.le_refl _) | (with_reducible refine Ext.trans ?_ (by assumption)) | omega))) c1_0).mono ?_; rintro e wc ⟨_, rfl, hxwc, vr, rfl, Fr, gr⟩; obtain ⟨ah0, nh0, kh0, ah1, nh1, kh1, rfl⟩ := gr.rd.shape; have hzwc := hxwc.size; (try simp only [size_drew, World.size_alloc] at hzwc); have XBC : Ext wb wc := Ext.trans (by repeat' (first | (with_reducible exact Ext.refl _) | (with_reducible assumption) | (with_reducible refine Ext.drewN ?_ _) | (with_reducible refine Ext.drew ?_) | (with_reducible refine Ext.alloc ?_ _) | (with_reducible refine Ext.setCell ?_ ?_ _) | (with_reducible refine Ext.setRow ?_ ?_ _) | (with_reducible exact Nat.le_refl _) | (with_reducible refine Ext.trans ?_ (by assumption)) | omega)) hxwc; have XC : Ext w16 wc := XB.trans XBC; have lr := gr.low; (try simp only [size_drew, World.size_alloc] at lr); (first | (have KU := Blk.ext KU hxwc; have CU := KU.cell; have FU := KU.frozen; have LU := KU.lt) | (have KU : Blk wc wb.heap.size 38 #[.slice none 0 0, .slice none 0 0] := Blk.ext (Blk.new wb _ _) hxwc; have CU := KU.cell; have FU := KU.frozen; have LU := KU.lt) | skip))
              refine hKz.out _ _ (by (try dsimp only); first | (refine ⟨Ext.cell (w := w16) ?_ pa0, Ext.cell (w := w16) ?_ pa1, Ext.cell (w := w16) ?_ pb0, Ext.cell (w := w16) ?_ pb1, Ext.cell (w := w16) ?_ pb2, Ext.cell (w := w16) ?_ pb3, Ext.cell (w := w16) ?_ pb4, Ext.cell (w := w16) ?_ pb5, Ext.cell (w := w16) ?_ pb6, Ext.cell (w := w16) ?_ pb7⟩ <;> (repeat' (first | (with_reducible exact Ext.refl _) | (with_reducible assumption) | (with_reducible refine Ext.drewN ?_ _) | (with_reducible refine Ext.drew ?_) | (with_reducible refine Ext.alloc ?_ _) | (with_reducible refine Ext.setCell ?_ ?_ _) | (with_reducible refine Ext.setRow ?_ ?_ _) | (with_reducible exact Nat.le_refl _) | (with_reducible refine Ext.trans ?_ (by assumption)) | omega)); done)) (fun hHeld => ?_)
              clear hKz Kz
              (try simp only [List.getElem_toArray, List.getElem_cons_zero, List.getElem_cons_succ, Act.put, List.setIfInBounds_toArray, List.set_cons_zero, List.set_cons_succ])
              refine wpAnyH_take (i := 6) (v := ?_) rfl (by kernel_rfl) (by kernel_rfl) (by kernel_rfl) (fun _ _ _ h => h) (Or.inl ⟨by rfl, ?_⟩) (by assumption) ?_
              rotate_left
              focus (intro w hSw; (try dsimp only at hSw); go_simp <;> with_reducible rfl)
              (try simp only [List.getElem_toArray, List.getElem_cons_zero, List.getElem_cons_succ, Act.put, List.setIfInBounds_toArray, List.set_cons_zero, List.set_cons_succ])
              refine wpAnyH_take (i := 7) (v := ?_) rfl (by kernel_rfl) (by kernel_rfl) (by kernel_rfl) (fun _ _ _ h => h) (Or.inl ⟨by rfl, ?_⟩) (by assumption) ?_
              rotate_left
              focus (intro w hSw; (try dsimp only at hSw); go_simp <;> with_reducible rfl)
              (try simp only [List.getElem_toArray, List.getElem_cons_zero, List.getElem_cons_succ, Act.put, List.setIfInBounds_toArray, List.set_cons_zero, List.set_cons_succ])
              refine wpAnyH_take (i := 8) (v := ?_) rfl (by kernel_rfl) (by kernel_rfl) (by kernel_rfl) (fun _ _ _ h => h) (Or.inl ⟨by rfl, ?_⟩) (by assumption) ?_
              rotate_left
              focus (intro w hSw; (try dsimp only at hSw); go_simp <;> with_reducible rfl)
              (try simp only [List.getElem_toArray, List.getElem_cons_zero, List.getElem_cons_succ, Act.put, List.setIfInBounds_toArray, List.set_cons_zero, List.set_cons_succ])
              refine wpAnyH_ready (rs := [10]) (by kernel_rfl) (by simp) ?_
              refine AllReadyH.cons rfl (fun Kz hKz => ?_) AllReadyH.nil
              (try simp only [List.getElem_toArray, List.getElem_cons_zero, List.getElem_cons_succ])
              go_simp
              refine hKz.out _ _ (by (try dsimp only); first | (refine ⟨Ext.cell (w := w16) ?_ pa0, Ext.cell (w := w16) ?_ pa1, Ext.cell (w := w16) ?_ pb0, Ext.cell (w := w16) ?_ pb1, Ext.cell (w := w16) ?_ pb2, Ext.cell (w := w16) ?_ pb3, Ext.cell (w := w16) ?_ pb4, Ext.cell (w := w16) ?_ pb5, Ext.cell (w := w16) ?_ pb6, Ext.cell (w := w16) ?_ pb7⟩ <;> (repeat' (first | (with_reducible exact Ext.refl _) | (with_reducible assumption) | (with_reducible refine Ext.drewN ?_ _) | (with_reducible refine Ext.drew ?_) | (with_reducible refine Ext.alloc ?_ _) | (with_reducible refine Ext.setCell ?_ ?_ _) | (with_reducible refine Ext.setRow ?_ ?_ _) | (with_reducible exact Nat.le_refl _) | (with_reducible refine Ext.trans ?_ (by assumption)) | omega)); done)) (fun hHeld => ?_)
              clear hKz Kz
              (try simp only [List.getElem_toArray, List.getElem_cons_zero, List.getElem_cons_succ, Act.put, List.setIfInBounds_toArray, List.set_cons_zero, List.set_cons_succ])
              refine wpAnyH_take (i := 11) (v := ?_) rfl (by kernel_rfl) (by kernel_rfl) (by kernel_rfl) (fun _ _ _ h => h) (Or.inl ⟨by rfl, ?_⟩) (by assumption) ?_
              rotate_left
              focus (intro w hSw; (try dsimp only at hSw); go_simp <;> with_reducible rfl)
              (try simp only [List.getElem_toArray, List.getElem_cons_zero, List.getElem_cons_succ, Act.put, List.setIfInBounds_toArray, List.set_cons_zero, List.set_cons_succ])
              refine wpAnyH_done (by kernel_rfl) ?_ _
              go_wp2_with fail
              go_meet
              case rel =>
                (try simp only [World.size_alloc, size_drew])
                first
                  | (exact ⟨_, _, _, _, _, _, _, rfl, (by first | rfl | trivial), XC.alloc _, XC.size, Blk.new _ _ _, Fr, (gr.ext ((Ext.refl _).alloc _)).keep (Chg.refl _ _) (by first | omega | (simp only [World.size_alloc, size_drew]; omega)), fun k hk => ⟨by have := lr k hk; (try simp only [World.size_alloc]); omega, by have := lr k hk; omega⟩⟩)
                  | (exact ⟨_, _, _, _, _, _, w16.heap.size, rfl, (by first | rfl | trivial), (Ext.setCell (Ext.setCell XC (by omega) _) (by omega) _), by omega, by (have := (Blk.set_ (Blk.set_ KU 0 (.slice ah0 nh0 kh0)) 1 (.slice ah1 nh1 kh1)); simpa using this), Fr, OwDisk.keep ((gr.box KU 0 _).box (Blk.set_ KU 0 _) 1 _) (Chg.refl _ _) (by first | omega | (simp only [World.size_alloc, size_drew]; omega)), fun k hk => ⟨by have := lr k hk; (try simp only [World.size_setCell]); omega, by have := lr k hk; omega⟩⟩)
                  | (exact ⟨_, _, _, _, _, _, wa.heap.size, rfl, (by first | rfl | trivial), (Ext.setCell (Ext.setCell XC (by omega) _) (by omega) _), by omega, by (have := (Blk.set_ (Blk.set_ KU 0 (.slice ah0 nh0 kh0)) 1 (.slice ah1 nh1 kh1)); simpa using this), Fr, OwDisk.keep ((gr.box KU 0 _).box (Blk.set_ KU 0 _) 1 _) (Chg.refl _ _) (by first | omega | (simp only [World.size_alloc, size_drew]; omega)), fun k hk => ⟨by have := lr k hk; (try simp only [World.size_setCell]); omega, by have := lr k hk; omega⟩⟩)
                  | (exact ⟨_, _, _, _, _, _, wb.heap.size, rfl, (by first | rfl | trivial), (Ext.setCell (Ext.setCell XC (by omega) _) (by omega) _), by omega, by (have := (Blk.set_ (Blk.set_ KU 0 (.slice ah0 nh0 kh0)) 1 (.slice ah1 nh1 kh1)); simpa using this), Fr, OwDisk.keep ((gr.box KU 0 _).box (Blk.set_ KU 0 _) 1 _) (Chg.refl _ _) (by first | omega | (simp only [World.size_alloc, size_drew]; omega)), fun k hk => ⟨by have := lr k hk; (try simp only [World.size_setCell]); omega, by have := lr k hk; omega⟩⟩)
          · (try simp only [List.getElem_toArray, List.getElem_cons_zero, List.getElem_cons_succ])
            go_simp
            refine hKz.out _ _ (by (try dsimp only); first | (refine ⟨Ext.cell (w := w16) ?_ pa0, Ext.cell (w := w16) ?_ pa1, Ext.cell (w := w16) ?_ pb0, Ext.cell (w := w16) ?_ pb1, Ext.cell (w := w16) ?_ pb2, Ext.cell (w := w16) ?_ pb3, Ext.cell (w := w16) ?_ pb4, Ext.cell (w := w16) ?_ pb5, Ext.cell (w := w16) ?_ pb6, Ext.cell (w := w16) ?_ pb7⟩ <;> (repeat' (first | (with_reducible exact Ext.refl _) | (with_reducible assumption) | (with_reducible refine Ext.drewN ?_ _) | (with_reducible refine Ext.drew ?_) | (with_reducible refine Ext.alloc ?_ _) | (with_reducible refine Ext.setCell ?_ ?_ _) | (with_reducible refine Ext.setRow ?_ ?_ _) | (with_reducible exact Nat.le_refl _) | (with_reducible refine Ext.trans ?_ (by assumption)) | omega)); done)) (fun hHeld => ?_)
            clear hKz Kz
            (try simp only [List.getElem_toArray, List.getElem_cons_zero, List.getElem_cons_succ, Act.put, List.setIfInBounds_toArray, List.set_cons_zero, List.set_cons_succ])
            refine wpAnyH_ready (rs := [1]) (by kernel_rfl) (by simp) ?_
            refine AllReadyH.cons rfl (fun Kz hKz => ?_) AllReadyH.nil
            (try simp only [List.getElem_toArray, List.getElem_cons_zero, List.getElem_cons_succ])
            go_simp
            (go_at_call 10; refine (to_Disk (h0.ext (Ext.trans E16 (by repeat' (first | (with_reducible exact Ext.refl _) | (with_reducible assumption) | (with_reducible refine Ext.drewN ?_ _) | (with_reducible refine Ext.drew ?_) | (with_reducible refine Ext.alloc ?_ _) | (with_reducible refine Ext.setCell ?_ ?_ _) | (with_reducible refine Ext.setRow ?_ ?_ _) | (with_reducible exact Nat.le_refl _) | (with_reducible refine Ext.trans ?_ (by assumption)) | omega)))) q0_0 q0_1).mono ?_; rintro e wa ⟨_, rfl, hxwa, F0, g0⟩; obtain ⟨ahp0, nhp0, khp0, ahp1, nhp1, khp1, rfl⟩ := g0.rd.shape; have hzwa := hxwa.size; (try simp only [size_drew, World.size_alloc] at hzwa); have XA : Ext w16 wa := Ext.trans (by repeat' (first | (with_reducible exact Ext.refl _) | (with_reducible assumption) | (with_reducible refine Ext.drewN ?_ _) | (with_reducible refine Ext.drew ?_) | (with_reducible refine Ext.alloc ?_ _) | (with_reducible refine Ext.setCell ?_ ?_ _) | (with_reducible refine Ext.setRow ?_ ?_ _) | (with_reducible exact Nat.le_refl _) | (with_reducible refine Ext.trans ?_ (by assumption)) | omega)) hxwa; (first | (have KU := Blk.ext KU hxwa; have CU := KU.cell; have FU := KU.frozen; have LU := KU.lt) | (have KU : Blk wa w16.heap.size 38 #[.slice none 0 0, .slice none 0 0] := Blk.ext (Blk.new w16.drew _ _) hxwa; have CU := KU.cell; have FU := KU.frozen; have LU := KU.lt) | skip))
            refine hKz.out _ _ (by (try dsimp only); first | (refine ⟨Ext.cell (w := w16) ?_ pa0, Ext.cell (w := w16) ?_ pa1, Ext.cell (w := w16) ?_ pb0, Ext.cell (w := w16) ?_ pb1, Ext.cell (w := w16) ?_ pb2, Ext.cell (w := w16) ?_ pb3, Ext.cell (w := w16) ?_ pb4, Ext.cell (w := w16) ?_ pb5, Ext.cell (w := w16) ?_ pb6, Ext.cell (w := w16) ?_ pb7⟩ <;> (repeat' (first | (with_reducible exact Ext.refl _) | (with_reducible assumption) | (with_reducible refine Ext.drewN ?_ _) | (with_reducible refine Ext.drew ?_) | (with_reducible refine Ext.alloc ?_ _) | (with_reducible refine Ext.setCell ?_ ?_ _) | (with_reducible refine Ext.setRow ?_ ?_ _) | (with_reducible exact Nat.le_refl _) | (with_reducible refine Ext.trans ?_ (by assumption)) | omega)); done)) (fun hHeld => ?_)
            clear hKz Kz
            (try simp only [List.getElem_toArray, List.getElem_cons_zero, List.getElem_cons_succ, Act.put, List.setIfInBounds_toArray, List.set_cons_zero, List.set_cons_succ])
            refine wpAnyH_ready (rs := [4]) (by kernel_rfl) (by simp) ?_
            refine AllReadyH.cons rfl (fun Kz hKz => ?_) AllReadyH.nil
            (try simp only [List.getElem_toArray, List.getElem_cons_zero, List.getElem_cons_succ])
            go_simp
            (go_at_call 11; refine (to_Shot (h1.ext (Ext.trans E16 (by repeat' (first | (with_reducible exact Ext.refl _) | (with_reducible assumption) | (with_reducible refine Ext.drewN ?_ _) | (with_reducible refine Ext.drew ?_) | (with_reducible refine Ext.alloc ?_ _) | (with_reducible refine Ext.setCell ?_ ?_ _) | (with_reducible refine Ext.setRow ?_ ?_ _) | (with_reducible exact Nat.le_refl _) | (with_reducible refine Ext.trans ?_ (by assumption)) | omega)))) q1_0 q1_1).mono ?_; rintro e wb ⟨_, rfl, hxwb, F1, g1⟩; obtain ⟨ahq3, nhq3, khq3, ahq4, nhq4, khq4, rfl⟩ := g1.rd.shape; have hzwb := hxwb.size; (try simp only [size_drew, World.size_alloc] at hzwb); have XAB : Ext wa wb := Ext.trans (by repeat' (first | (with_reducible exact Ext.refl _) | (with_reducible assumption) | (with_reducible refine Ext.drewN ?_ _) | (with_reducible refine Ext.drew ?_) | (with_reducible refine Ext.alloc ?_ _) | (with_reducible refine Ext.setCell ?_ ?_ _) | (with_reducible refine Ext.setRow ?_ ?_ _) | (with_reducible exact Nat.le_refl _) | (with_reducible refine Ext.trans ?_ (by assumption)) | omega)) hxwb; have XB : Ext w16 wb := XA.trans XAB; (first | (have KU := Blk.ext KU hxwb; have CU := KU.cell; have FU := KU.frozen; have LU := KU.lt) | (have KU : Blk wb wa.heap.size 38 #[.slice none 0 0, .slice none 0 0] := Blk.ext (Blk.new wa _ _) hxwb; have CU := KU.cell; have FU := KU.frozen; have LU := KU.lt) | skip))
            refine hKz.out _ _ (by (try dsimp only); first | (refine ⟨Ext.cell (w := w16) ?_ pa0, Ext.cell (w := w16) ?_ pa1, Ext.cell (w := w16) ?_ pb0, Ext.cell (w := w16) ?_ pb1, Ext.cell (w := w16) ?_ pb2, Ext.cell (w := w16) ?_ pb3, Ext.cell (w := w16) ?_ pb4, Ext.cell (w := w16) ?_ pb5, Ext.cell (w := w16) ?_ pb6, Ext.cell (w := w16) ?_ pb7⟩ <;> (repeat' (first | (with_reducible exact Ext.refl _) | (with_reducible assumption) | (with_reducible refine Ext.drewN ?_ _) | (with_reducible refine Ext.drew ?_) | (with_reducible refine Ext.alloc ?_ _) | (with_reducible refine Ext.setCell ?_ ?_ _) | (with_reducible refine Ext.setRow ?_ ?_ _) | (with_reducible exact Nat.le_refl _) | (with_reducible refine Ext.trans ?_ (by assumption)) | omega)); done)) (fun hHeld => ?_)
            clear hKz Kz
            (try simp only [List.getElem_toArray, List.getElem_cons_zero, List.getElem_cons_succ, Act.put, List.setIfInBounds_toArray, List.set_cons_zero, List.set_cons_succ])
            refine wpAnyH_ready (rs := [5]) (by kernel_rfl) (by simp) ?_
            refine AllReadyH.cons rfl (fun Kz hKz => ?_) AllReadyH.nil
            (try simp only [List.getElem_toArray, List.getElem_cons_zero, List.getElem_cons_succ])
            go_simp
            (go_at_call 12; refine (shotWrote_k ((g0.rd).ext (Ext.trans XAB (by repeat' (first | (with_reducible exact Ext.refl _) | (with_reducible assumption) | (with_reducible refine Ext.drewN ?_ _) | (with_reducible refine Ext.drew ?_) | (with_reducible refine Ext.alloc ?_ _) | (with_reducible refine Ext.setCell ?_ ?_ _) | (with_reducible refine Ext.setRow ?_ ?_ _) | (with_reducible exact Nat.le_refl _) | (with_reducible refine Ext.trans ?_ (by assumption)) | omega)))) ((g1.rd).ext (by repeat' (first | (with_reducible exact Ext.refl _) | (with_reducible assumption) | (with_reducible refine Ext.drewN ?_ _) | (with_reducible refine Ext.drew ?_) | (with_reducible refine Ext.alloc ?_ _) | (with_reducible refine Ext.setCell ?_ ?_ _) | (with_reducible refine Ext.setRow ?_ ?_ _) | (with_reducible exact Nat.le_refl _) | (with_reducible refine Ext.trans ?_ (by assumption)) | omega))) c1_0).mono ?_; rintro e wc ⟨_, rfl, hxwc, vr, rfl, Fr, gr⟩; obtain ⟨ah0, nh0, kh0, ah1, nh1, kh1, rfl⟩ := gr.rd.shape; have hzwc := hxwc.size; (try simp only [size_drew, World.size_alloc] at hzwc); have XBC : Ext wb wc := Ext.trans (by repeat' (first | (with_reducible exact Ext.refl _) | (with_reducible assumption) | (with_reducible refine Ext.drewN ?_ _) | (with_reducible refine Ext.drew ?_) | (with_reducible refine Ext.alloc ?_ _) | (with_reducible refine Ext.setCell ?_ ?_ _) | (with_reducible refine Ext.setRow ?_ ?_ _) | (with_reducible exact Nat.le_refl _) | (with_reducible refine Ext.trans ?_ (by assumption)) | omega)) hxwc; have XC : Ext w16 wc := XB.trans XBC; have lr := gr.low; (try simp only [size_drew, World.size_alloc] at lr); (first | (have KU := Blk.ext KU hxwc; have CU := KU.cell; have FU := KU.frozen; have LU := KU.lt) | (have KU : Blk wc wb.heap.size 38 #[.slice none 0 0, .slice none 0 0] := Blk.ext (Blk.new wb _ _) hxwc; have CU := KU.cell; have FU := KU.frozen; have LU := KU.lt) | skip))
            refine hKz.out _ _ (by (try dsimp only); first | (refine ⟨Ext.cell (w := w16) ?_ pa0, Ext.cell (w := w16) ?_ pa1, Ext.cell (w := w16) ?_ pb0, Ext.cell (w := w16) ?_ pb1, Ext.cell (w := w16) ?_ pb2, Ext.cell (w := w16) ?_ pb3, Ext.cell (w := w16) ?_ pb4, Ext.cell (w := w16) ?_ pb5, Ext.cell (w := w16) ?_ pb6, Ext.cell (w := w16) ?_ pb7⟩ <;> (repeat' (first | (with_reducible exact Ext.refl _) | (with_reducible assumption) | (with_reducible refine Ext.drewN ?_ _) | (with_reducible refine Ext.drew ?_) | (with_reducible refine Ext.alloc ?_ _) | (with_reducible refine Ext.setCell ?_ ?_ _) | (with_reducible refine Ext.setRow ?_ ?_ _) | (with_reducible exact Nat.le_refl _) | (with_reducible refine Ext.trans ?_ (by assumption)) | omega)); done)) (fun hHeld => ?_)
            clear hKz Kz
            (try simp only [List.getElem_toArray, List.getElem_cons_zero, List.getElem_cons_succ, Act.put, List.setIfInBounds_toArray, List.set_cons_zero, List.set_cons_succ])
            refine wpAnyH_take (i := 6) (v := ?_) rfl (by kernel_rfl) (by kernel_rfl) (by kernel_rfl) (fun _ _ _ h => h) (Or.inl ⟨by rfl, ?_⟩) (by assumption) ?_
            rotate_left
            focus (intro w hSw; (try dsimp only at hSw); go_simp <;> with_reducible rfl)
            (try simp only [List.getElem_toArray, List.getElem_cons_zero, List.getElem_cons_succ, Act.put, List.setIfInBounds_toArray, List.set_cons_zero, List.set_cons_succ])
            refine wpAnyH_take (i := 7) (v := ?_) rfl (by kernel_rfl) (by kernel_rfl) (by kernel_rfl) (fun _ _ _ h => h) (Or.inl ⟨by rfl, ?_⟩) (by assumption) ?_
            rotate_left
            focus (intro w hSw; (try dsimp only at hSw); go_simp <;> with_reducible rfl)
            (try simp only [List.getElem_toArray, List.getElem_cons_zero, List.getElem_cons_succ, Act.put, List.setIfInBounds_toArray, List.set_cons_zero, List.set_cons_succ])
            refine wpAnyH_take (i := 8) (v := ?_) rfl (by kernel_rfl) (by kernel_rfl) (by kernel_rfl) (fun _ _ _ h => h) (Or.inl ⟨by rfl, ?_⟩) (by assumption) ?_
            rotate_left
            focus (intro w hSw; (try dsimp only at hSw); go_simp <;> with_reducible rfl)
            (try simp only [List.getElem_toArray, List.getElem_cons_zero, List.getElem_cons_succ, Act.put, List.setIfInBounds_toArray, List.set_cons_zero, List.set_cons_succ])
            refine wpAnyH_ready (rs := [10]) (by kernel_rfl) (by simp) ?_
            refine AllReadyH.cons rfl (fun Kz hKz => ?_) AllReadyH.nil
            (try simp only [List.getElem_toArray, List.getElem_cons_zero, List.getElem_cons_succ])
            go_simp
            refine hKz.out _ _ (by (try dsimp only); first | (refine ⟨Ext.cell (w := w16) ?_ pa0, Ext.cell (w := w16) ?_ pa1, Ext.cell (w := w16) ?_ pb0, Ext.cell (w := w16) ?_ pb1, Ext.cell (w := w16) ?_ pb2, Ext.cell (w := w16) ?_ pb3, Ext.cell (w := w16) ?_ pb4, Ext.cell (w := w16) ?_ pb5, Ext.cell (w := w16) ?_ pb6, Ext.cell (w := w16) ?_ pb7⟩ <;> (repeat' (first | (with_reducible exact Ext.refl _) | (with_reducible assumption) | (with_reducible refine Ext.drewN ?_ _) | (with_reducible refine Ext.drew ?_) | (with_reducible refine Ext.alloc ?_ _) | (with_reducible refine Ext.setCell ?_ ?_ _) | (with_reducible refine Ext.setRow ?_ ?_ _) | (with_reducible exact Nat.le_refl _) | (with_reducible refine Ext.trans ?_ (by assumption)) | omega)); done)) (fun hHeld => ?_)
            clear hKz Kz
            (try simp only [List.getElem_toArray, List.getElem_cons_zero, List.getElem_cons_succ, Act.put, List.setIfInBounds_toArray, List.set_cons_zero, List.set_cons_succ])
            refine wpAnyH_take (i := 11) (v := ?_) rfl (by kernel_rfl) (by kernel_rfl) (by kernel_rfl) (fun _ _ _ h => h) (Or.inl ⟨by rfl, ?_⟩) (by assumption) ?_
            rotate_left
            focus (intro w hSw; (try dsimp only at hSw); go_simp <;> with_reducible rfl)
            (try simp only [List.getElem_toArray, List.getElem_cons_zero, List.getElem_cons_succ, Act.put, List.setIfInBounds_toArray, List.set_cons_zero, List.set_cons_succ])
            refine wpAnyH_done (by kernel_rfl) ?_ _
            go_wp2_with fail
            go_meet
            case rel =>
              (try simp only [World.size_alloc, size_drew])
              first
                | (exact ⟨_, _, _, _, _, _, _, rfl, (by first | rfl | trivial), XC.alloc _, XC.size, Blk.new _ _ _, Fr, (gr.ext ((Ext.refl _).alloc _)).keep (Chg.refl _ _) (by first | omega | (simp only [World.size_alloc, size_drew]; omega)), fun k hk => ⟨by have := lr k hk; (try simp only [World.size_alloc]); omega, by have := lr k hk; omega⟩⟩)
                | (exact ⟨_, _, _, _, _, _, w16.heap.size, rfl, (by first | rfl | trivial), (Ext.setCell (Ext.setCell XC (by omega) _) (by omega) _), by omega, by (have := (Blk.set_ (Blk.set_ KU 0 (.slice ah0 nh0 kh0)) 1 (.slice ah1 nh1 kh1)); simpa using this), Fr, OwDisk.keep ((gr.box KU 0 _).box (Blk.set_ KU 0 _) 1 _) (Chg.refl _ _) (by first | omega | (simp only [World.size_alloc, size_drew]; omega)), fun k hk => ⟨by have := lr k hk; (try simp only [World.size_setCell]); omega, by have := lr k hk; omega⟩⟩)
                | (exact ⟨_, _, _, _, _, _, wa.heap.size, rfl, (by first | rfl | trivial), (Ext.setCell (Ext.setCell XC (by omega) _) (by omega) _), by omega, by (have := (Blk.set_ (Blk.set_ KU 0 (.slice ah0 nh0 kh0)) 1 (.slice ah1 nh1 kh1)); simpa using this), Fr, OwDisk.keep ((gr.box KU 0 _).box (Blk.set_ KU 0 _) 1 _) (Chg.refl _ _) (by first | omega | (simp only [World.size_alloc, size_drew]; omega)), fun k hk => ⟨by have := lr k hk; (try simp only [World.size_setCell]); omega, by have := lr k hk; omega⟩⟩)
                | (exact ⟨_, _, _, _, _, _, wb.heap.size, rfl, (by first | rfl | trivial), (Ext.setCell (Ext.setCell XC (by omega) _) (by omega) _), by omega, by (have := (Blk.set_ (Blk.set_ KU 0 (.slice ah0 nh0 kh0)) 1 (.slice ah1 nh1 kh1)); simpa using this), Fr, OwDisk.keep ((gr.box KU 0 _).box (Blk.set_ KU 0 _) 1 _) (Chg.refl _ _) (by first | omega | (simp only [World.size_alloc, size_drew]; omega)), fun k hk => ⟨by have := lr k hk; (try simp only [World.size_setCell]); omega, by have := lr k hk; omega⟩⟩)
        case rest =>
          revert wc; intro w17 hcut
          obtain ⟨ah0, nh0, kh0, ah1, nh1, kh1, bh, rfl, rfl, X17, hgeh, Bh, Fh, gh, hloh⟩ := hcut
          clear pa0 pa1 pb0 pb1 pb2 pb3 pb4 pb5 pb6 pb7
          have lh : ∀ k, k ∈ Fh → w16.heap.size ≤ k ∧ k < w17.heap.size := fun k hk => ⟨(gh.low k hk).1, (hloh k hk).1⟩
          have hb2h : ∀ k, k ∈ Fh → k ≠ bh := fun k hk => (hloh k hk).2
          clear hloh
          have MBh := Bh.lt
          have Z17 := X17.size; have E17 : Ext w w17 := E16.trans X17
          have Ba := Ba.ext X17
          have Bb := Bb.ext X17
          have Bw := Bw.ext X17
          have gw := gw.ext X17
          have Bx := Bx.ext X17
          have By := By.ext X17
          have Bg := Bg.ext X17
          have gm := gm.ext X17
          have CBa := Ba.cell; have LBa := Ba.lt
          have CBb := Bb.cell; have LBb := Bb.lt
          have CBw := Bw.cell; have LBw := Bw.lt
          have CBx := Bx.cell; have LBx := Bx.lt
          have CBy := By.cell; have LBy := By.lt
          have CBg := Bg.cell; have LBg := Bg.lt
          have CBh := Bh.cell; have LBh := Bh.lt
          go_wp2_with fail
          refine (eq_Disk ((gh.rd).ext (by repeat' (first | (with_reducible exact Ext.refl _) | (with_reducible assumption) | (with_reducible refine Ext.drewN ?_ _) | (with_reducible refine Ext.drew ?_) | (with_reducible refine Ext.alloc ?_ _) | (with_reducible refine Ext.setCell ?_ ?_ _) | (with_reducible refine Ext.setRow ?_ ?_ _) | (with_reducible exact Nat.le_refl _) | (with_reducible refine Ext.trans ?_ (by assumption)) | omega))) ((gw.rd).ext (by repeat' (first | (with_reducible exact Ext.refl _) | (with_reducible assumption) | (with_reducible refine Ext.drewN ?_ _) | (with_reducible refine Ext.drew ?_) | (with_reducible refine Ext.alloc ?_ _) | (with_reducible refine Ext.setCell ?_ ?_ _) | (with_reducible refine Ext.setRow ?_ ?_ _) | (with_reducible exact Nat.le_refl _) | (with_reducible refine Ext.trans ?_ (by assumption)) | omega)))).mono ?_
          rintro e w18 ⟨rfl, hx18⟩
          have X18 : Ext w17 w18 := by repeat' (first | (with_reducible exact Ext.refl _) | (with_reducible assumption) | (with_reducible refine Ext.drewN ?_ _) | (with_reducible refine Ext.drew ?_) | (with_reducible refine Ext.alloc ?_ _) | (with_reducible refine Ext.setCell ?_ ?_ _) | (with_reducible refine Ext.setRow ?_ ?_ _) | (with_reducible exact Nat.le_refl _) | (with_reducible refine Ext.trans ?_ (by assumption)) | omega)
          have Z18 := X18.size
          have E18 : Ext w w18 := E17.trans X18
          have Ba := Ba.ext X18
          have Bb := Bb.ext X18
          have Bw := Bw.ext X18
          have gw := gw.ext X18
          have Bx := Bx.ext X18
          have By := By.ext X18
          have Bg := Bg.ext X18
          have gm := gm.ext X18
          have Bh := Bh.ext X18
          have gh := gh.ext X18
          clear hx18
          clear CBa LBa CBb LBb CBw LBw CBx LBx CBy LBy CBg LBg CBh LBh
          have CBa := Ba.cell; have LBa := Ba.lt
          have CBb := Bb.cell; have LBb := Bb.lt
          have CBw := Bw.cell; have LBw := Bw.lt
          have CBx := Bx.cell; have LBx := Bx.lt
          have CBy := By.cell; have LBy := By.lt
          have CBg := Bg.cell; have LBg := Bg.lt
          have CBh := Bh.cell; have LBh := Bh.lt
          go_wp2_with fail
          refine (held_Disk (gm.ext (by repeat' (first | (with_reducible exact Ext.refl _) | (with_reducible assumption) | (with_reducible refine Ext.drewN ?_ _) | (with_reducible refine Ext.drew ?_) | (with_reducible refine Ext.alloc ?_ _) | (with_reducible refine Ext.setCell ?_ ?_ _) | (with_reducible refine Ext.setRow ?_ ?_ _) | (with_reducible exact Nat.le_refl _) | (with_reducible refine Ext.trans ?_ (by assumption)) | omega))) (by omega) (by have := nb; omega)).mono ?_
          rintro e w19 ⟨rfl, hx19⟩
          rw [← HN.out]
          have X19 : Ext w18 w19 := by repeat' (first | (with_reducible exact Ext.refl _) | (with_reducible assumption) | (with_reducible refine Ext.drewN ?_ _) | (with_reducible refine Ext.drew ?_) | (with_reducible refine Ext.alloc ?_ _) | (with_reducible refine Ext.setCell ?_ ?_ _) | (with_reducible refine Ext.setRow ?_ ?_ _) | (with_reducible exact Nat.le_refl _) | (with_reducible refine Ext.trans ?_ (by assumption)) | omega)
          have Z19 := X19.size
          have E19 : Ext w w19 := E18.trans X19
          have Ba := Ba.ext X19
          have Bb := Bb.ext X19
          have Bw := Bw.ext X19
          have gw := gw.ext X19
          have Bx := Bx.ext X19
          have By := By.ext X19
          have Bg := Bg.ext X19
          have gm := gm.ext X19
          have Bh := Bh.ext X19
          have gh := gh.ext X19
          clear hx19
          clear CBa LBa CBb LBb CBw LBw CBx LBx CBy LBy CBg LBg CBh LBh
          have CBa := Ba.cell; have LBa := Ba.lt
          have CBb := Bb.cell; have LBb := Bb.lt
          have CBw := Bw.cell; have LBw := Bw.lt
          have CBx := Bx.cell; have LBx := Bx.lt
          have CBy := By.cell; have LBy := By.lt
          have CBg := Bg.cell; have LBg := Bg.lt
          have CBh := Bh.cell; have LBh := Bh.lt
          go_wp2
          go_ret
          exact ⟨rfl, E19⟩
end Go.Proofs.YtemhbbpbmgpcaaaGreat

-- The statement FnExactShotWrote: for every input the law returns true.
namespace Go.Proofs.YtemhbbpbmgpcaaaGreat.fnExactShotWrote
open Go.ChangeShapes Go.WideShapes Go.ChangeAt Go.RowKit Go.G8
open Go.Proofs.YtemhbbpbmgpcaaaGreat.facts (b2)

set_option maxRecDepth 100000 in
theorem lifted (os : Os) (started : os.Started) (H : Type) (enc : TypeId × Value → H) :
    ReturnsInHanded {} Tryz.checked os 3 .any (Rows.fnExactShotWroteSpec.pre6 enc Tryz.prog Tryz.f3 Rows.fnExactShotWroteRow.domain false) (Rows.fnExactShotWroteSpec.post enc Tryz.prog Tryz.f3 false true false false) := by
  refine returnsInHanded_of_change (C := Tryz.checked) own started (by kernel_rfl) Tryz.func3
    (ChangeSpec.witness6 (enc := enc) (C := Tryz.checked) false ⟨#[], #[.agg #[.slice none 0 0, .slice none 0 0], .int .i64 0, .agg #[.int .i64 0, .int .i64 0, .int .i64 0, .slice none 0 0, .slice none 0 0, .int .i64 0, .int .i64 0, .int .i64 0]], []⟩ 8 (by kernel_rfl) (by kernel_rfl) (by kernel_rfl) (by kernel_rfl)) ?_
  intro W base args ds gs before hval0 hW _ _
  have hval : ∀ (j : Nat) t v, Tryz.f3.params[j]? = some t → args[j]? = some v → Value.okWide Tryz.prog W .any base t v := hval0
  have hW' := hW
  obtain ⟨p, q, hA0, hV, rfl, hfz, hnd⟩ := hW
  have hA : DataW.TrodAll enc Tryz.prog W 0 (fun _ => true) true Tryz.f3.params.toList args.toList ds p := hA0
  rw [Tryz.params3] at hA hval
  obtain ⟨v0, vs0, d0, ds0, p0, q0, hargs, rfl, rfl, h0, r0⟩ := trodAll_cons hA
  obtain ⟨v1, vs1, d1, ds1, p1, q1, rfl, rfl, rfl, h1, r1⟩ := trodAll_cons r0
  obtain ⟨v2, vs2, d2, ds2, p2, q2, rfl, rfl, rfl, h2, r2⟩ := trodAll_cons r1
  obtain ⟨rfl, rfl, rfl⟩ := trodAll_nil r2
  obtain rfl : args = #[v0, v1, v2] := by cases args; simp_all
  obtain ⟨rfl, rfl⟩ := trodVars_none hV
  have k0 := h0
  have lt0 : ∀ x ∈ p0, x.block < W.heap.size := by obtain ⟨m, hm⟩ := k0; exact DataW.trod_lt m _ _ _ hm
  have hv0 := hval 0 25 v0 rfl rfl
  unfold Value.okWide at hv0
  rw [Tryz.underlying25] at hv0
  obtain ⟨cs0, rfl, _, _⟩ := hv0
  obtain ⟨m0, hm0⟩ := h0
  obtain ⟨s0_0, l0_0, s0_1, l0_1, e0, g0_0, g0_1⟩ := rl_Disk hm0
  obtain rfl : cs0 = #[s0_0, s0_1] := by cases cs0; simp_all [Value.cells]
  obtain ⟨a1, rfl, rfl, rfl, w1⟩ := open_int Tryz.underlying2 (hval 1 2 v1 rfl rfl) h1
  have k2 := h2
  have lt2 : ∀ x ∈ p2, x.block < W.heap.size := by obtain ⟨m, hm⟩ := k2; exact DataW.trod_lt m _ _ _ hm
  have hv2 := hval 2 33 v2 rfl rfl
  unfold Value.okWide at hv2
  rw [Tryz.underlying33] at hv2
  obtain ⟨cs2, rfl, _, _⟩ := hv2
  obtain ⟨m2, hm2⟩ := h2
  obtain ⟨c2_0, c2_1, c2_2, s2_3, l2_3, s2_4, l2_4, c2_5, c2_6, c2_7, e2, g2_3, g2_4⟩ := rl_Shot hm2
  obtain rfl : cs2 = #[.int .i64 c2_0, .int .i64 c2_1, .int .i64 c2_2, s2_3, s2_4, .int .i64 c2_5, .int .i64 c2_6, .int .i64 c2_7] := by cases cs2; simp_all [Value.cells]
  clear hA0 hval0
  refine (law_ShotWrote W _ _ _ _ a1 _ _ _ _ _ _ _ _ _ _ g0_0 g0_1 g2_3 g2_4).mono fun e W' ⟨he, bel0⟩ => ?_
  have bel : Below W.heap.size W W' := bel0
  subst he
  exact ⟨_, rfl, _, _, _, [], _, [], hW', trodAll_mk1 (shut_bool Tryz.underlying4 _), (trodAll_cons_mk (Below.trod laidOut (by kernel_rfl) (of_decide_eq_true (by kernel_rfl)) k0 bel lt0) (trodAll_cons_mk (shut_int Tryz.underlying2 w1) (trodAll_cons_mk (Below.trod laidOut (by kernel_rfl) (of_decide_eq_true (by kernel_rfl)) k2 bel lt2) trodAll_mk0))), rfl, bel.frame _, fun h => by cases h⟩

theorem k0 : (Rows.fnExactShotWroteRow.wf (OpenSpec.ofChange Rows.fnExactShotWroteSpec)) = true := by kernel_rfl
theorem k1 : (laidOutB Tryz.checked.prog) = true := facts.k1
theorem k2 : (mapsRowed Tryz.checked.prog) = true := facts.k2
theorem k3 : (Tryz.f3.params.all (Tryz.checked.prog.readableRec ·)) = true := by kernel_rfl
theorem k4 : (namedTie Tryz.checked.prog Rows.fnExactShotWroteRow.named Rows.fnExactShotWroteSpec.vars) = true := by kernel_rfl
theorem k5 : ((Rows.fnExactShotWroteRow.stops == [])) = true := by kernel_rfl
theorem k6 : ((Tryz.checked.prog.stops == [])) = true := facts.k6
theorem k7 : ((Rows.fnExactShotWroteRow.knobs == [])) = true := by kernel_rfl
theorem k8 : ((Tryz.checked.prog.stopKnobs == [])) = true := facts.k8
theorem k9 : ((Rows.fnExactShotWroteRow.inPlace == Tryz.checked.prog.inPlace 3)) = true := by kernel_rfl
theorem k10 : ((Rows.fnExactShotWroteRow.unfollowed == Tryz.checked.prog.unfollowed 3)) = true := by kernel_rfl
theorem k11 : ((Rows.fnExactShotWroteRow.recurses == Tryz.checked.prog.recurses 3)) = true := by kernel_rfl
theorem k12 : ((Rows.fnExactShotWroteRow.named == Tryz.checked.prog.varsNamed 3)) = true := by kernel_rfl
theorem k13 : ((Rows.fnExactShotWroteRow.maps == (Tryz.f3.params.toList ++ Rows.fnExactShotWroteSpec.plain.varTypes Tryz.checked.prog).any (Tryz.checked.prog.mapsRec ·))) = true := by kernel_rfl
theorem k14 : ((Rows.fnExactShotWroteRow.ifaces == (Tryz.f3.params.toList ++ Rows.fnExactShotWroteSpec.plain.varTypes Tryz.checked.prog).any (Tryz.checked.prog.ifacesRec ·))) = true := by kernel_rfl
theorem k15 : ((Rows.fnExactShotWroteRow.mapsOut == Tryz.checked.prog.mapsAmong Tryz.f3.resultTypes.toList)) = true := by kernel_rfl
theorem k16 : ((Rows.fnExactShotWroteRow.loops == (Tryz.f3.params.toList ++ Rows.fnExactShotWroteSpec.plain.varTypes Tryz.checked.prog).any (Tryz.checked.prog.loopsFrom ·))) = true := by kernel_rfl
theorem k17 : ((Rows.fnExactShotWroteRow.wideKeys == (Tryz.f3.params.toList ++ Rows.fnExactShotWroteSpec.plain.varTypes Tryz.checked.prog ++ Tryz.f3.resultTypes.toList).any (Tryz.checked.prog.wideKeysFrom ·))) = true := by kernel_rfl
theorem k18 : (Rows.fnExactShotWroteSpec.vars.all (Tryz.checked.prog.varReadable ·)) = true := by kernel_rfl
theorem k19 : (Tryz.f3.resultTypes.all (fun t => Tryz.checked.prog.readableRec t && decide (t < Tryz.checked.prog.types.size))) = true := by kernel_rfl
theorem k20 : ((Rows.fnExactShotWroteRow.ifacesOut == Tryz.f3.resultTypes.toList.any (Tryz.checked.prog.ifacesRec ·))) = true := by kernel_rfl
theorem k21 : ((Rows.fnExactShotWroteRow.loopsOut == Tryz.f3.resultTypes.toList.any (Tryz.checked.prog.loopsFrom ·))) = true := by kernel_rfl
theorem k22 : ((Rows.fnExactShotWroteRow.plainKeys == Tryz.checked.prog.plainKeys)) = true := facts.k22
theorem k23 : (Rows.fnExactShotWroteRow.shortTexts.isNone) = true := by kernel_rfl
theorem k24 : (Tryz.checked.prog.stopsHeard) = true := facts.k24
theorem k25 : (Tryz.checked.prog.mayEnter) = true := facts.k25
theorem k26 : ((Rows.fnExactShotWroteRow.lifted == Tryz.checked.prog.liftsFinal)) = true := facts.k26
theorem k27 : ((Tryz.checked.prog.make == some Rows.fnExactShotWroteRow.make)) = true := facts.k27
theorem k28 : ((Rows.fnExactShotWroteRow.kinds == (if Rows.fnExactShotWroteRow.domain.isEmpty then [] else Tryz.f3.params.toList.map fun t => match Tryz.checked.prog.underlying t with | some (.int k) => some k | _ => none))) = true := by kernel_rfl
theorem k29 : ((Rows.fnExactShotWroteRow.pinned == Rows.fnExactShotWroteRow.pinnedBy)) = true := by kernel_rfl
theorem k30 : ((Rows.fnExactShotWroteRow.veiled == (Tryz.f3.params.toList ++ Rows.fnExactShotWroteSpec.plain.varTypes Tryz.checked.prog ++ Tryz.f3.resultTypes.toList).any (Tryz.checked.prog.veiledRec ·))) = true := by kernel_rfl
theorem k31 : (Rows.fnExactShotWroteRow.veiledFits Tryz.checked.prog Tryz.f3.params.toList (Tryz.f3.params.toList ++ Rows.fnExactShotWroteSpec.plain.varTypes Tryz.checked.prog ++ Tryz.f3.resultTypes.toList)) = true := by kernel_rfl
set_option maxRecDepth 100000 in
theorem closed : joinedFacts Tryz.checked.prog 3 Tryz.f3 Rows.fnExactShotWroteSpec Rows.fnExactShotWroteRow = true := by
  unfold joinedFacts
  exact (b2 (b2 (b2 (b2 (b2 (b2 (b2 (b2 (b2 (b2 (b2 (b2 (b2 (b2 (b2 (b2 (b2 (b2 (b2 (b2 (b2 (b2 (b2 (b2 (b2 (b2 (b2 (b2 (b2 (b2 (b2 k0 k1) k2) k3) k4) k5) k6) k7) k8) k9) k10) k11) k12) k13) k14) k15) k16) k17) k18) k19) k20) k21) k22) k23) k24) k25) k26) k27) k28) k29) k30) k31)

theorem proved : Rows.FnExactShotWroteSaid :=
  OpenClaim.holds_of_wide 3 Tryz.f3 rfl rfl rfl rfl rfl rfl rfl ⟨rfl, rfl, rfl, rfl, rfl⟩ rfl rfl rfl rfl rfl (by as_aux_lemma => kernel_rfl) Tryz.func3 closed
    (of_decide_eq_true (by as_aux_lemma => kernel_rfl)) (by as_aux_lemma => (unfold Func.isWrapper; rw [if_neg (of_decide_eq_false (by kernel_rfl))]; exact ⟨rfl, rfl⟩))
    (fun os started H enc _ => lifted os started H enc)
end Go.Proofs.YtemhbbpbmgpcaaaGreat.fnExactShotWrote
