/- The statement's walk: FnExactReadBy. -/
import Derived.Test.YtankkbjlneeolaaRd2
import Derived.Test.YtankkbjlneeolaaHelpR
import Derived.Deep.DeepCutAuto
set_option linter.unusedSimpArgs false
set_option linter.unusedVariables false
namespace Go.Proofs.Ytankkbjlneeolaa
open Go.RowKit Go.G8

set_option maxHeartbeats 8000000 in
set_option maxRecDepth 100000 in
theorem law_ReadBy (w : World) (s0_0 : Value) (l0_0 : List (List Int)) (s0_1 : Value) (l0_1 : List DWrite) (c0_2 : Int) (c0_3 : Int) (s0_4 : Value) (l0_4 : List DPair) (s0_5 : Value) (l0_5 : List DJob) (c0_6 : Int) (c0_7 : Int) (c0_8 : Int) (c0_9 : Int) (c0_10 : Int) (c0_11 : Int) (c1_0 : Int) (c1_1 : Int) (c1_2 : Int) (c1_3 : Int) (h0_0 : Nest 0 w s0_0 (nestInt64S l0_0)) (h0_1 : Nest 1 w s0_1 (nestWrite l0_1)) (h0_4 : Ints 2 w s0_4 (flPair l0_4)) (h0_5 : Ints 5 w s0_5 (flJob l0_5)) : Calls Try.prog 5 #[.agg #[s0_0, s0_1, .int .i64 c0_2, .int .i64 c0_3, s0_4, s0_5, .int .i64 c0_6, .int .i64 c0_7, .int .i64 c0_8, .int .i64 c0_9, .int .i64 c0_10, .int .i64 c0_11], .agg #[.int .i64 c1_0, .int .i64 c1_1, .int .i64 c1_2, .int .i64 c1_3]] w (RetV w (.bool true)) := by
  obtain ⟨a0_0, n0_0, k0_0, rfl⟩ := h0_0.shape
  obtain ⟨a0_1, n0_1, k0_1, rfl⟩ := h0_1.shape
  obtain ⟨a0_4, n0_4, k0_4, rfl⟩ := h0_4.shape
  obtain ⟨a0_5, n0_5, k0_5, rfl⟩ := h0_5.shape
  have h0 : RdStore w (.agg #[.slice a0_0 n0_0 k0_0, .slice a0_1 n0_1 k0_1, .int .i64 c0_2, .int .i64 c0_3, .slice a0_4 n0_4 k0_4, .slice a0_5 n0_5 k0_5, .int .i64 c0_6, .int .i64 c0_7, .int .i64 c0_8, .int .i64 c0_9, .int .i64 c0_10, .int .i64 c0_11]) ⟨⟨l0_0, l0_1⟩, ⟨c0_2, c0_3, l0_4, l0_5, ⟨c0_6, c0_7, c0_8⟩⟩, c0_9, c0_10, c0_11⟩ := ⟨_, _, _, _, rfl, h0_0, h0_1, h0_4, h0_5⟩
  obtain ⟨S, hS⟩ : ∃ S : DStore, S = ⟨⟨l0_0, l0_1⟩, ⟨c0_2, c0_3, l0_4, l0_5, ⟨c0_6, c0_7, c0_8⟩⟩, c0_9, c0_10, c0_11⟩ := ⟨_, rfl⟩
  rw [← hS] at h0
  go_enter Try.func5, Try.ntmps5
  go_wp2_with fail
  refine (szStore_c _ _ _ _ _ _ _ _ _ _ (length_flPair _) _ _ _ (length_flJob _) _ _ _ _ _ _ _ (h0_0.ext (by repeat' (first | (with_reducible exact Ext.refl _) | (with_reducible assumption) | (with_reducible refine Ext.drewN ?_ _) | (with_reducible refine Ext.drew ?_) | (with_reducible refine Ext.alloc ?_ _) | (with_reducible refine Ext.setCell ?_ ?_ _) | (with_reducible refine Ext.setRow ?_ ?_ _) | (with_reducible exact Nat.le_refl _) | (with_reducible refine Ext.trans ?_ (by assumption)) | omega))) (h0_1.ext (by repeat' (first | (with_reducible exact Ext.refl _) | (with_reducible assumption) | (with_reducible refine Ext.drewN ?_ _) | (with_reducible refine Ext.drew ?_) | (with_reducible refine Ext.alloc ?_ _) | (with_reducible refine Ext.setCell ?_ ?_ _) | (with_reducible refine Ext.setRow ?_ ?_ _) | (with_reducible exact Nat.le_refl _) | (with_reducible refine Ext.trans ?_ (by assumption)) | omega))) (h0_4.ext (by repeat' (first | (with_reducible exact Ext.refl _) | (with_reducible assumption) | (with_reducible refine Ext.drewN ?_ _) | (with_reducible refine Ext.drew ?_) | (with_reducible refine Ext.alloc ?_ _) | (with_reducible refine Ext.setCell ?_ ?_ _) | (with_reducible refine Ext.setRow ?_ ?_ _) | (with_reducible exact Nat.le_refl _) | (with_reducible refine Ext.trans ?_ (by assumption)) | omega))) (h0_5.ext (by repeat' (first | (with_reducible exact Ext.refl _) | (with_reducible assumption) | (with_reducible refine Ext.drewN ?_ _) | (with_reducible refine Ext.drew ?_) | (with_reducible refine Ext.alloc ?_ _) | (with_reducible refine Ext.setCell ?_ ?_ _) | (with_reducible refine Ext.setRow ?_ ?_ _) | (with_reducible exact Nat.le_refl _) | (with_reducible refine Ext.trans ?_ (by assumption)) | omega))) (by omega) (by omega)).mono ?_
  rintro e w1 ⟨v1, rfl, hx1, hv1⟩
  have X1 : Ext w w1 := by repeat' (first | (with_reducible exact Ext.refl _) | (with_reducible assumption) | (with_reducible refine Ext.drewN ?_ _) | (with_reducible refine Ext.drew ?_) | (with_reducible refine Ext.alloc ?_ _) | (with_reducible refine Ext.setCell ?_ ?_ _) | (with_reducible refine Ext.setRow ?_ ?_ _) | (with_reducible exact Nat.le_refl _) | (with_reducible refine Ext.trans ?_ (by assumption)) | omega)
  have Ba : Blk w1 w.heap.size 33 #[.slice a0_0 n0_0 k0_0, .slice a0_1 n0_1 k0_1, .int .i64 c0_2, .int .i64 c0_3, .slice a0_4 n0_4 k0_4, .slice a0_5 n0_5 k0_5, .int .i64 c0_6, .int .i64 c0_7, .int .i64 c0_8, .int .i64 c0_9, .int .i64 c0_10, .int .i64 c0_11] := ((Blk.new _ _ _).alloc _).ext hx1
  have Bb : Blk w1 (w.heap.size + 1) 58 #[.int .i64 c1_0, .int .i64 c1_1, .int .i64 c1_2, .int .i64 c1_3] := (Blk.new2 _ _ _ _).ext hx1
  have Z1 := X1.size; have E1 := X1; clear hx1
  have CBa := Ba.cell; have LBa := Ba.lt; have CBb := Bb.cell; have LBb := Bb.lt
  rcases hv1 with ⟨rfl, qz⟩ | ⟨rfl, qz⟩
  · go_wp2; go_ret; exact ⟨rfl, by repeat' (first | (with_reducible exact Ext.refl _) | (with_reducible assumption) | (with_reducible refine Ext.drewN ?_ _) | (with_reducible refine Ext.drew ?_) | (with_reducible refine Ext.alloc ?_ _) | (with_reducible refine Ext.setCell ?_ ?_ _) | (with_reducible refine Ext.setRow ?_ ?_ _) | (with_reducible exact Nat.le_refl _) | (with_reducible refine Ext.trans ?_ (by assumption)) | omega)⟩
  have q0 : rowsSize (nestInt64S S.Disk.Kept) ≤ 1048576 := by rw [hS]; simp only []; omega
  have q1 : rowsSize (nestWrite S.Disk.Wait) ≤ 1048576 := by rw [hS]; simp only []; omega
  have q4 : S.State.Pairs.length ≤ 1048576 := by rw [hS]; simp only []; omega
  have q5 : S.State.Jobs.length ≤ 1048576 := by rw [hS]; simp only []; omega
  clear hS h0_0 h0_1 h0_4 h0_5
  go_wp2_with fail
  have ya0 : ∀ w', Ext w1 w' → w'.cell? ⟨_, 0, none⟩ = some (.slice a0_0 n0_0 k0_0) := fun w' hw => (Ba.ext hw).cell 0
  have ya1 : ∀ w', Ext w1 w' → w'.cell? ⟨_, 1, none⟩ = some (.slice a0_1 n0_1 k0_1) := fun w' hw => (Ba.ext hw).cell 1
  have ya2 : ∀ w', Ext w1 w' → w'.cell? ⟨_, 2, none⟩ = some (.int .i64 c0_2) := fun w' hw => (Ba.ext hw).cell 2
  have ya3 : ∀ w', Ext w1 w' → w'.cell? ⟨_, 3, none⟩ = some (.int .i64 c0_3) := fun w' hw => (Ba.ext hw).cell 3
  have ya4 : ∀ w', Ext w1 w' → w'.cell? ⟨_, 4, none⟩ = some (.slice a0_4 n0_4 k0_4) := fun w' hw => (Ba.ext hw).cell 4
  have ya5 : ∀ w', Ext w1 w' → w'.cell? ⟨_, 5, none⟩ = some (.slice a0_5 n0_5 k0_5) := fun w' hw => (Ba.ext hw).cell 5
  have ya6 : ∀ w', Ext w1 w' → w'.cell? ⟨_, 6, none⟩ = some (.int .i64 c0_6) := fun w' hw => (Ba.ext hw).cell 6
  have ya7 : ∀ w', Ext w1 w' → w'.cell? ⟨_, 7, none⟩ = some (.int .i64 c0_7) := fun w' hw => (Ba.ext hw).cell 7
  have ya8 : ∀ w', Ext w1 w' → w'.cell? ⟨_, 8, none⟩ = some (.int .i64 c0_8) := fun w' hw => (Ba.ext hw).cell 8
  have ya9 : ∀ w', Ext w1 w' → w'.cell? ⟨_, 9, none⟩ = some (.int .i64 c0_9) := fun w' hw => (Ba.ext hw).cell 9
  have ya10 : ∀ w', Ext w1 w' → w'.cell? ⟨_, 10, none⟩ = some (.int .i64 c0_10) := fun w' hw => (Ba.ext hw).cell 10
  have ya11 : ∀ w', Ext w1 w' → w'.cell? ⟨_, 11, none⟩ = some (.int .i64 c0_11) := fun w' hw => (Ba.ext hw).cell 11
  have yb0 : ∀ w', Ext w1 w' → w'.cell? ⟨_, 0, none⟩ = some (.int .i64 c1_0) := fun w' hw => (Bb.ext hw).cell 0
  have yb1 : ∀ w', Ext w1 w' → w'.cell? ⟨_, 1, none⟩ = some (.int .i64 c1_1) := fun w' hw => (Bb.ext hw).cell 1
  have yb2 : ∀ w', Ext w1 w' → w'.cell? ⟨_, 2, none⟩ = some (.int .i64 c1_2) := fun w' hw => (Bb.ext hw).cell 2
  have yb3 : ∀ w', Ext w1 w' → w'.cell? ⟨_, 3, none⟩ = some (.int .i64 c1_3) := fun w' hw => (Bb.ext hw).cell 3
  clear CBa LBa CBb LBb
  go_cut [6, 7] (fun sx bx wx => ∃ gg : Nat, sx = .pointer (some ⟨gg, 0, none⟩) ∧ bx = .bool (rbOk S ⟨c1_0, c1_1, c1_2, c1_3⟩) ∧ Ext w1 wx ∧ w1.heap.size ≤ gg ∧ Blk wx gg 60 #[.int .i64 (rbVal S ⟨c1_0, c1_1, c1_2, c1_3⟩).Client, .int .i64 (rbVal S ⟨c1_0, c1_1, c1_2, c1_3⟩).Seq, .int .i64 (rbVal S ⟨c1_0, c1_1, c1_2, c1_3⟩).Index, .int .i64 (rbVal S ⟨c1_0, c1_1, c1_2, c1_3⟩).Has, .int .i64 (rbVal S ⟨c1_0, c1_1, c1_2, c1_3⟩).Value])
  case first =>
    go_region_held3 (fun w' => Ext w1 w') (repeat' (first | (with_reducible exact Ext.refl _) | (with_reducible assumption) | (with_reducible refine Ext.drewN ?_ _) | (with_reducible refine Ext.drew ?_) | (with_reducible refine Ext.alloc ?_ _) | (with_reducible refine Ext.setCell ?_ ?_ _) | (with_reducible refine Ext.setRow ?_ ?_ _) | (with_reducible exact Nat.le_refl _) | (with_reducible refine Ext.trans ?_ (by assumption)) | omega)) (first | (go_at_call 8; refine (to_Store (h0.ext (E1.trans (by repeat' (first | (with_reducible exact Ext.refl _) | (with_reducible refine Ext.drewN ?_ _) | (with_reducible refine Ext.drew ?_) | (with_reducible refine Ext.alloc ?_ _) | (with_reducible refine Ext.setCell ?_ ?_ _) | (with_reducible refine Ext.trans ?_ hyf) | (with_reducible refine Ext.trans ?_ hyb) | (with_reducible refine Ext.trans ?_ hya) | (with_reducible assumption) | omega)))) q0 q1 q4 q5).mono ?_; rintro e wa ⟨_, rfl, hya, Fu, gu⟩; obtain ⟨au0, nu0, ku0, au1, nu1, ku1, au4, nu4, ku4, au5, nu5, ku5, rfl⟩ := gu.rd.shape; have hzhya := hya.size; obtain ⟨hchya, hdhya⟩ := hya.cells; (try simp only [World.size_alloc, size_drew] at hzhya hchya hdhya); (try have hqhyaw1 : w1.heap.size < wa.heap.size := (by omega)); (try have hqhyawb : wb.heap.size < wa.heap.size := (by omega)); (try have hqhyawf : wf.heap.size < wa.heap.size := (by omega))) | (go_at_call 19; refine (toRead_c _ c1_0 c1_1 c1_2 c1_3).mono ?_; rintro e wb ⟨rfl, hyb⟩; have hzhyb := hyb.size; obtain ⟨hchyb, hdhyb⟩ := hyb.cells; (try simp only [World.size_alloc, size_drew] at hzhyb hchyb hdhyb); (try have hqhybw1 : w1.heap.size < wb.heap.size := (by omega)); (try have hqhybwa : wa.heap.size < wb.heap.size := (by omega)); (try have hqhybwf : wf.heap.size < wb.heap.size := (by omega))) | (go_at_call 18; refine (sReadBy_k ((gu.rd).ext (by repeat' (first | (with_reducible exact Ext.refl _) | (with_reducible refine Ext.drewN ?_ _) | (with_reducible refine Ext.drew ?_) | (with_reducible refine Ext.alloc ?_ _) | (with_reducible refine Ext.setCell ?_ ?_ _) | (with_reducible refine Ext.trans ?_ hyf) | (with_reducible refine Ext.trans ?_ hyb) | (with_reducible refine Ext.trans ?_ hya) | (with_reducible assumption) | omega))) c1_0 c1_1 c1_2 c1_3).mono ?_; rintro e wf ⟨rfl, hyf⟩; have hzhyf := hyf.size; obtain ⟨hchyf, hdhyf⟩ := hyf.cells; (try simp only [World.size_alloc, size_drew] at hzhyf hchyf hdhyf); (try have hqhyfw1 : w1.heap.size < wf.heap.size := (by omega)); (try have hqhyfwa : wa.heap.size < wf.heap.size := (by omega)); (try have hqhyfwb : wb.heap.size < wf.heap.size := (by omega))))
    all_goals clear ya0 ya1 ya2 ya3 ya4 ya5 ya6 ya7 ya8 ya9 ya10 ya11 yb0 yb1 yb2 yb3 hchyf hdhyf hchyb hdhyb hchya hdhya
    all_goals go_wp2_with fail
    all_goals go_meet
    all_goals case rel =>
      (try simp only [World.size_alloc, size_drew] at *)
      refine ⟨_, rfl, by first | rfl | trivial, by repeat' (first | (with_reducible exact Ext.refl _) | (with_reducible assumption) | (with_reducible refine Ext.drewN ?_ _) | (with_reducible refine Ext.drew ?_) | (with_reducible refine Ext.alloc ?_ _) | (with_reducible refine Ext.setCell ?_ ?_ _) | (with_reducible refine Ext.setRow ?_ ?_ _) | (with_reducible exact Nat.le_refl _) | (with_reducible refine Ext.trans ?_ (by assumption)) | omega), by omega, Blk.cast (by repeat' (first | (with_reducible assumption) | (with_reducible exact Blk.new _ _ _) | (with_reducible exact Blk.new2 _ _ _ _) | (with_reducible exact Blk.new3 _ _ _ _ _) | (with_reducible (apply Blk.ext; rotate_left; exact hyf)) | (with_reducible (apply Blk.ext; rotate_left; exact hyb)) | (with_reducible (apply Blk.ext; rotate_left; exact hya)) | (with_reducible apply Blk.drew) | (with_reducible apply Blk.alloc) | (with_reducible apply Blk.set_) | (with_reducible apply Blk.row) | (with_reducible apply Blk.far) | (with_reducible apply Blk.rowFar) | omega | (simp; omega))) (by simp)⟩
  case rest =>
    revert wc; intro w2 hcut
    obtain ⟨gw, rfl, rfl, X2, hge2, Bw⟩ := hcut
    clear ya0 ya1 ya2 ya3 ya4 ya5 ya6 ya7 ya8 ya9 ya10 ya11 yb0 yb1 yb2 yb3
    have MBw := Bw.lt
    have Z2 := X2.size; have E2 : Ext w w2 := E1.trans X2
    have Ba := Ba.ext X2
    have Bb := Bb.ext X2
    have CBa := Ba.cell; have LBa := Ba.lt
    have CBb := Bb.cell; have LBb := Bb.lt
    have CBw := Bw.cell; have LBw := Bw.lt
    go_wp2_with fail
    refine (to_Store (h0.ext (by repeat' (first | (with_reducible exact Ext.refl _) | (with_reducible assumption) | (with_reducible refine Ext.drewN ?_ _) | (with_reducible refine Ext.drew ?_) | (with_reducible refine Ext.alloc ?_ _) | (with_reducible refine Ext.setCell ?_ ?_ _) | (with_reducible refine Ext.setRow ?_ ?_ _) | (with_reducible exact Nat.le_refl _) | (with_reducible refine Ext.trans ?_ (by assumption)) | omega))) q0 q1 q4 q5).mono ?_
    rintro e w3 ⟨_, rfl, hx3, Fx, gx⟩
    obtain ⟨ax0, nx0, kx0, ax1, nx1, kx1, ax4, nx4, kx4, ax5, nx5, kx5, rfl⟩ := gx.rd.shape
    have lx := gx.low; (try simp only [World.size_alloc] at lx)
    have X3 : Ext w2 w3 := by repeat' (first | (with_reducible exact Ext.refl _) | (with_reducible assumption) | (with_reducible refine Ext.drewN ?_ _) | (with_reducible refine Ext.drew ?_) | (with_reducible refine Ext.alloc ?_ _) | (with_reducible refine Ext.setCell ?_ ?_ _) | (with_reducible refine Ext.setRow ?_ ?_ _) | (with_reducible exact Nat.le_refl _) | (with_reducible refine Ext.trans ?_ (by assumption)) | omega)
    have Z3 := X3.size
    have E3 : Ext w w3 := E2.trans X3
    have Ba := Ba.ext X3
    have Bb := Bb.ext X3
    have Bw := Bw.ext X3
    clear hx3
    clear CBa LBa CBb LBb CBw LBw
    have CBa := Ba.cell; have LBa := Ba.lt
    have CBb := Bb.cell; have LBb := Bb.lt
    have CBw := Bw.cell; have LBw := Bw.lt
    go_wp2_with fail
    obtain ⟨w4, hw4⟩ : ∃ x, x = w3.alloc (.cells #[.slice ax0 nx0 kx0, .slice ax1 nx1 kx1, .int .i64 S.State.Index, .int .i64 S.State.Time, .slice ax4 nx4 kx4, .slice ax5 nx5 kx5, .int .i64 S.State.Lease.Holder, .int .i64 S.State.Lease.Epoch, .int .i64 S.State.Lease.Until, .int .i64 S.Num, .int .i64 S.Last, .int .i64 S.Busy] 45) := ⟨_, rfl⟩
    rw [← hw4]
    have X4 : Ext w3 w4 := by rw [hw4]; exact (Ext.refl _).alloc _
    have Bx : Blk w4 w3.heap.size 45 #[.slice ax0 nx0 kx0, .slice ax1 nx1 kx1, .int .i64 S.State.Index, .int .i64 S.State.Time, .slice ax4 nx4 kx4, .slice ax5 nx5 kx5, .int .i64 S.State.Lease.Holder, .int .i64 S.State.Lease.Epoch, .int .i64 S.State.Lease.Until, .int .i64 S.Num, .int .i64 S.Last, .int .i64 S.Busy] := by rw [hw4]; exact Blk.new _ _ _
    clear hw4
    have MBx := Bx.lt
    have Z4 := X4.size; have E4 : Ext w w4 := E3.trans X4
    have Ba := Ba.ext X4
    have Bb := Bb.ext X4
    have Bw := Bw.ext X4
    have gx := gx.ext X4
    clear CBa LBa CBb LBb CBw LBw
    have CBa := Ba.cell; have LBa := Ba.lt
    have CBb := Bb.cell; have LBb := Bb.lt
    have CBw := Bw.cell; have LBw := Bw.lt
    have CBx := Bx.cell; have LBx := Bx.lt
    go_wp2_with fail
    have ya0 : ∀ w', Ext w4 w' → w'.cell? ⟨_, 0, none⟩ = some (.slice ax0 nx0 kx0) := fun w' hw => (Bx.ext hw).cell 0
    have ya1 : ∀ w', Ext w4 w' → w'.cell? ⟨_, 1, none⟩ = some (.slice ax1 nx1 kx1) := fun w' hw => (Bx.ext hw).cell 1
    have ya2 : ∀ w', Ext w4 w' → w'.cell? ⟨_, 2, none⟩ = some (.int .i64 S.State.Index) := fun w' hw => (Bx.ext hw).cell 2
    have ya3 : ∀ w', Ext w4 w' → w'.cell? ⟨_, 3, none⟩ = some (.int .i64 S.State.Time) := fun w' hw => (Bx.ext hw).cell 3
    have ya4 : ∀ w', Ext w4 w' → w'.cell? ⟨_, 4, none⟩ = some (.slice ax4 nx4 kx4) := fun w' hw => (Bx.ext hw).cell 4
    have ya5 : ∀ w', Ext w4 w' → w'.cell? ⟨_, 5, none⟩ = some (.slice ax5 nx5 kx5) := fun w' hw => (Bx.ext hw).cell 5
    have ya6 : ∀ w', Ext w4 w' → w'.cell? ⟨_, 6, none⟩ = some (.int .i64 S.State.Lease.Holder) := fun w' hw => (Bx.ext hw).cell 6
    have ya7 : ∀ w', Ext w4 w' → w'.cell? ⟨_, 7, none⟩ = some (.int .i64 S.State.Lease.Epoch) := fun w' hw => (Bx.ext hw).cell 7
    have ya8 : ∀ w', Ext w4 w' → w'.cell? ⟨_, 8, none⟩ = some (.int .i64 S.State.Lease.Until) := fun w' hw => (Bx.ext hw).cell 8
    have ya9 : ∀ w', Ext w4 w' → w'.cell? ⟨_, 9, none⟩ = some (.int .i64 S.Num) := fun w' hw => (Bx.ext hw).cell 9
    have ya10 : ∀ w', Ext w4 w' → w'.cell? ⟨_, 10, none⟩ = some (.int .i64 S.Last) := fun w' hw => (Bx.ext hw).cell 10
    have ya11 : ∀ w', Ext w4 w' → w'.cell? ⟨_, 11, none⟩ = some (.int .i64 S.Busy) := fun w' hw => (Bx.ext hw).cell 11
    have yb0 : ∀ w', Ext w4 w' → w'.cell? ⟨_, 0, none⟩ = some (.int .i64 c1_0) := fun w' hw => (Bb.ext hw).cell 0
    have yb1 : ∀ w', Ext w4 w' → w'.cell? ⟨_, 1, none⟩ = some (.int .i64 c1_1) := fun w' hw => (Bb.ext hw).cell 1
    have yb2 : ∀ w', Ext w4 w' → w'.cell? ⟨_, 2, none⟩ = some (.int .i64 c1_2) := fun w' hw => (Bb.ext hw).cell 2
    have yb3 : ∀ w', Ext w4 w' → w'.cell? ⟨_, 3, none⟩ = some (.int .i64 c1_3) := fun w' hw => (Bb.ext hw).cell 3
    clear CBa LBa CBb LBb CBw LBw CBx LBx
    go_cut [9, 10] (fun sx bx wx => ∃ gg : Nat, sx = .pointer (some ⟨gg, 0, none⟩) ∧ bx = .bool (rbOk S ⟨c1_0, c1_1, c1_2, c1_3⟩) ∧ Ext w4 wx ∧ w4.heap.size ≤ gg ∧ Blk wx gg 60 #[.int .i64 (rbVal S ⟨c1_0, c1_1, c1_2, c1_3⟩).Client, .int .i64 (rbVal S ⟨c1_0, c1_1, c1_2, c1_3⟩).Seq, .int .i64 (rbVal S ⟨c1_0, c1_1, c1_2, c1_3⟩).Index, .int .i64 (rbVal S ⟨c1_0, c1_1, c1_2, c1_3⟩).Has, .int .i64 (rbVal S ⟨c1_0, c1_1, c1_2, c1_3⟩).Value])
    case first =>
      go_region_held3 (fun w' => Ext w4 w') (repeat' (first | (with_reducible exact Ext.refl _) | (with_reducible assumption) | (with_reducible refine Ext.drewN ?_ _) | (with_reducible refine Ext.drew ?_) | (with_reducible refine Ext.alloc ?_ _) | (with_reducible refine Ext.setCell ?_ ?_ _) | (with_reducible refine Ext.setRow ?_ ?_ _) | (with_reducible exact Nat.le_refl _) | (with_reducible refine Ext.trans ?_ (by assumption)) | omega)) (first | (go_at_call 19; refine (toRead_c _ c1_0 c1_1 c1_2 c1_3).mono ?_; rintro e wb ⟨rfl, hyb⟩; have hzhyb := hyb.size; obtain ⟨hchyb, hdhyb⟩ := hyb.cells; (try simp only [World.size_alloc, size_drew] at hzhyb hchyb hdhyb); (try have hqhybw4 : w4.heap.size < wb.heap.size := (by omega)); (try have hqhybwf : wf.heap.size < wb.heap.size := (by omega))) | (go_at_call 20; refine (readBy_k ((gx.rd).ext (by repeat' (first | (with_reducible exact Ext.refl _) | (with_reducible refine Ext.drewN ?_ _) | (with_reducible refine Ext.drew ?_) | (with_reducible refine Ext.alloc ?_ _) | (with_reducible refine Ext.setCell ?_ ?_ _) | (with_reducible refine Ext.trans ?_ hyf) | (with_reducible refine Ext.trans ?_ hyb) | (with_reducible assumption) | omega))) c1_0 c1_1 c1_2 c1_3).mono ?_; rintro e wf ⟨rfl, hyf⟩; have hzhyf := hyf.size; obtain ⟨hchyf, hdhyf⟩ := hyf.cells; (try simp only [World.size_alloc, size_drew] at hzhyf hchyf hdhyf); (try have hqhyfw4 : w4.heap.size < wf.heap.size := (by omega)); (try have hqhyfwb : wb.heap.size < wf.heap.size := (by omega))))
      all_goals clear ya0 ya1 ya2 ya3 ya4 ya5 ya6 ya7 ya8 ya9 ya10 ya11 yb0 yb1 yb2 yb3 hchyf hdhyf hchyb hdhyb
      all_goals go_wp2_with fail
      all_goals go_meet
      all_goals case rel =>
        (try simp only [World.size_alloc, size_drew] at *)
        refine ⟨_, rfl, by first | rfl | trivial, by repeat' (first | (with_reducible exact Ext.refl _) | (with_reducible assumption) | (with_reducible refine Ext.drewN ?_ _) | (with_reducible refine Ext.drew ?_) | (with_reducible refine Ext.alloc ?_ _) | (with_reducible refine Ext.setCell ?_ ?_ _) | (with_reducible refine Ext.setRow ?_ ?_ _) | (with_reducible exact Nat.le_refl _) | (with_reducible refine Ext.trans ?_ (by assumption)) | omega), by omega, Blk.cast (by repeat' (first | (with_reducible assumption) | (with_reducible exact Blk.new _ _ _) | (with_reducible exact Blk.new2 _ _ _ _) | (with_reducible exact Blk.new3 _ _ _ _ _) | (with_reducible (apply Blk.ext; rotate_left; exact hyf)) | (with_reducible (apply Blk.ext; rotate_left; exact hyb)) | (with_reducible apply Blk.drew) | (with_reducible apply Blk.alloc) | (with_reducible apply Blk.set_) | (with_reducible apply Blk.row) | (with_reducible apply Blk.far) | (with_reducible apply Blk.rowFar) | omega | (simp; omega))) (by simp)⟩
    case rest =>
      revert wc; intro w5 hcut
      obtain ⟨gg, rfl, rfl, X5, hge5, Bg⟩ := hcut
      clear ya0 ya1 ya2 ya3 ya4 ya5 ya6 ya7 ya8 ya9 ya10 ya11 yb0 yb1 yb2 yb3
      have MBg := Bg.lt
      have Z5 := X5.size; have E5 : Ext w w5 := E4.trans X5
      have Ba := Ba.ext X5
      have Bb := Bb.ext X5
      have Bw := Bw.ext X5
      have gx := gx.ext X5
      have Bx := Bx.ext X5
      have CBa := Ba.cell; have LBa := Ba.lt
      have CBb := Bb.cell; have LBb := Bb.lt
      have CBw := Bw.cell; have LBw := Bw.lt
      have CBx := Bx.cell; have LBx := Bx.lt
      have CBg := Bg.cell; have LBg := Bg.lt
      as_aux_lemma =>
        go_wp2_with fail
        refine (eqValue_c _ _ _ _ _ _).mono ?_
        rintro e w6 ⟨rfl, hx6⟩
        have X6 : Ext w5 w6 := by repeat' (first | (with_reducible exact Ext.refl _) | (with_reducible assumption) | (with_reducible refine Ext.drewN ?_ _) | (with_reducible refine Ext.drew ?_) | (with_reducible refine Ext.alloc ?_ _) | (with_reducible refine Ext.setCell ?_ ?_ _) | (with_reducible refine Ext.setRow ?_ ?_ _) | (with_reducible exact Nat.le_refl _) | (with_reducible refine Ext.trans ?_ (by assumption)) | omega)
        have Z6 := X6.size
        have E6 : Ext w w6 := E5.trans X6
        have Ba := Ba.ext X6
        have Bb := Bb.ext X6
        have Bw := Bw.ext X6
        have gx := gx.ext X6
        have Bx := Bx.ext X6
        have Bg := Bg.ext X6
        clear hx6
        clear CBa LBa CBb LBb CBw LBw CBx LBx CBg LBg
        have CBa := Ba.cell; have LBa := Ba.lt
        have CBb := Bb.cell; have LBb := Bb.lt
        have CBw := Bw.cell; have LBw := Bw.lt
        have CBx := Bx.cell; have LBx := Bx.lt
        have CBg := Bg.cell; have LBg := Bg.lt
        go_wp2_with fail
        have ya0 : ∀ w', Ext w6 w' → w'.cell? ⟨_, 0, none⟩ = some (.slice a0_0 n0_0 k0_0) := fun w' hw => (Ba.ext hw).cell 0
        have ya1 : ∀ w', Ext w6 w' → w'.cell? ⟨_, 1, none⟩ = some (.slice a0_1 n0_1 k0_1) := fun w' hw => (Ba.ext hw).cell 1
        have ya2 : ∀ w', Ext w6 w' → w'.cell? ⟨_, 2, none⟩ = some (.int .i64 c0_2) := fun w' hw => (Ba.ext hw).cell 2
        have ya3 : ∀ w', Ext w6 w' → w'.cell? ⟨_, 3, none⟩ = some (.int .i64 c0_3) := fun w' hw => (Ba.ext hw).cell 3
        have ya4 : ∀ w', Ext w6 w' → w'.cell? ⟨_, 4, none⟩ = some (.slice a0_4 n0_4 k0_4) := fun w' hw => (Ba.ext hw).cell 4
        have ya5 : ∀ w', Ext w6 w' → w'.cell? ⟨_, 5, none⟩ = some (.slice a0_5 n0_5 k0_5) := fun w' hw => (Ba.ext hw).cell 5
        have ya6 : ∀ w', Ext w6 w' → w'.cell? ⟨_, 6, none⟩ = some (.int .i64 c0_6) := fun w' hw => (Ba.ext hw).cell 6
        have ya7 : ∀ w', Ext w6 w' → w'.cell? ⟨_, 7, none⟩ = some (.int .i64 c0_7) := fun w' hw => (Ba.ext hw).cell 7
        have ya8 : ∀ w', Ext w6 w' → w'.cell? ⟨_, 8, none⟩ = some (.int .i64 c0_8) := fun w' hw => (Ba.ext hw).cell 8
        have ya9 : ∀ w', Ext w6 w' → w'.cell? ⟨_, 9, none⟩ = some (.int .i64 c0_9) := fun w' hw => (Ba.ext hw).cell 9
        have ya10 : ∀ w', Ext w6 w' → w'.cell? ⟨_, 10, none⟩ = some (.int .i64 c0_10) := fun w' hw => (Ba.ext hw).cell 10
        have ya11 : ∀ w', Ext w6 w' → w'.cell? ⟨_, 11, none⟩ = some (.int .i64 c0_11) := fun w' hw => (Ba.ext hw).cell 11
        have yb0 : ∀ w', Ext w6 w' → w'.cell? ⟨_, 0, none⟩ = some (.slice ax0 nx0 kx0) := fun w' hw => (Bx.ext hw).cell 0
        have yb1 : ∀ w', Ext w6 w' → w'.cell? ⟨_, 1, none⟩ = some (.slice ax1 nx1 kx1) := fun w' hw => (Bx.ext hw).cell 1
        have yb2 : ∀ w', Ext w6 w' → w'.cell? ⟨_, 2, none⟩ = some (.int .i64 S.State.Index) := fun w' hw => (Bx.ext hw).cell 2
        have yb3 : ∀ w', Ext w6 w' → w'.cell? ⟨_, 3, none⟩ = some (.int .i64 S.State.Time) := fun w' hw => (Bx.ext hw).cell 3
        have yb4 : ∀ w', Ext w6 w' → w'.cell? ⟨_, 4, none⟩ = some (.slice ax4 nx4 kx4) := fun w' hw => (Bx.ext hw).cell 4
        have yb5 : ∀ w', Ext w6 w' → w'.cell? ⟨_, 5, none⟩ = some (.slice ax5 nx5 kx5) := fun w' hw => (Bx.ext hw).cell 5
        have yb6 : ∀ w', Ext w6 w' → w'.cell? ⟨_, 6, none⟩ = some (.int .i64 S.State.Lease.Holder) := fun w' hw => (Bx.ext hw).cell 6
        have yb7 : ∀ w', Ext w6 w' → w'.cell? ⟨_, 7, none⟩ = some (.int .i64 S.State.Lease.Epoch) := fun w' hw => (Bx.ext hw).cell 7
        have yb8 : ∀ w', Ext w6 w' → w'.cell? ⟨_, 8, none⟩ = some (.int .i64 S.State.Lease.Until) := fun w' hw => (Bx.ext hw).cell 8
        have yb9 : ∀ w', Ext w6 w' → w'.cell? ⟨_, 9, none⟩ = some (.int .i64 S.Num) := fun w' hw => (Bx.ext hw).cell 9
        have yb10 : ∀ w', Ext w6 w' → w'.cell? ⟨_, 10, none⟩ = some (.int .i64 S.Last) := fun w' hw => (Bx.ext hw).cell 10
        have yb11 : ∀ w', Ext w6 w' → w'.cell? ⟨_, 11, none⟩ = some (.int .i64 S.Busy) := fun w' hw => (Bx.ext hw).cell 11
        clear CBa LBa CBb LBb CBw LBw CBx LBx CBg LBg
        go_region_held3 (fun w' => Ext w6 w') (first | exact Ext.drew (Ext.refl _) | exact Ext.trans (by assumption) hx7 | exact Ext.trans (by assumption) hx8) (first | (go_at_call 8; refine (to_Store (h0.ext (Ext.trans E6 (by assumption))) q0 q1 q4 q5).mono ?_; rintro e w7 ⟨_, rfl, hx7, Fz, gz⟩; obtain ⟨az0, nz0, kz0, az1, nz1, kz1, az4, nz4, kz4, az5, nz5, kz5, rfl⟩ := gz.rd.shape) | (go_at_call 11; refine (eq_Store ((gx.rd).ext (by assumption)) gz.rd).mono ?_; rintro e w8 ⟨rfl, hx8⟩))
        have X8 : Ext w6 w8 := by assumption
        clear ya0 yb0 ya1 yb1 ya2 yb2 ya3 yb3 ya4 yb4 ya5 yb5 ya6 yb6 ya7 yb7 ya8 yb8 ya9 yb9 ya10 yb10 ya11 yb11 hx8
        have Z8 := X8.size; have E8 : Ext w w8 := E6.trans X8
        have Ba := Ba.ext X8
        have Bb := Bb.ext X8
        have Bw := Bw.ext X8
        have gx := gx.ext X8
        have Bx := Bx.ext X8
        have Bg := Bg.ext X8
        have CBa := Ba.cell; have LBa := Ba.lt
        have CBb := Bb.cell; have LBb := Bb.lt
        have CBw := Bw.cell; have LBw := Bw.lt
        have CBx := Bx.cell; have LBx := Bx.lt
        have CBg := Bg.cell; have LBg := Bg.lt
        go_wp2
        go_ret
        exact ⟨rfl, E8⟩
end Go.Proofs.Ytankkbjlneeolaa
