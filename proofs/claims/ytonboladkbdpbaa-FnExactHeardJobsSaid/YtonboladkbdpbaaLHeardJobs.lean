/- The statement's walk: FnExactHeardJobs. -/
import Derived.Test.YtonboladkbdpbaaV11b
import Derived.Test.YtonboladkbdpbaaHelpB
import Derived.Deep.DeepCutAuto
namespace Go.Proofs.Ytonboladkbdpbaa
open Go.RowKit Go.G8

set_option maxHeartbeats 4000000 in
set_option maxRecDepth 100000 in
theorem law_HeardJobs (w : World) (c0_0 : Int) (c0_1 : Int) (c0_2 : Int) (c0_3 : Int) (c0_4 : Int) (s0_5 : Value) (l0_5 : List DDue) (c1_0 : Int) (c1_1 : Int) (c1_2 : Int) (c1_3 : Int) (c1_4 : Int) (s1_5 : Value) (l1_5 : List DDue) (h0_5 : Ints 2 w s0_5 (dues l0_5)) (h1_5 : Ints 2 w s1_5 (dues l1_5)) : Calls Try.prog 7 #[.agg #[.int .i64 c0_0, .int .i64 c0_1, .int .i64 c0_2, .int .i64 c0_3, .int .i64 c0_4, s0_5], .agg #[.int .i64 c1_0, .int .i64 c1_1, .int .i64 c1_2, .int .i64 c1_3, .int .i64 c1_4, s1_5]] w (RetV w (.bool true)) := by
  obtain ⟨a0_5, n0_5, k0_5, rfl⟩ := h0_5.shape
  obtain ⟨a1_5, n1_5, k1_5, rfl⟩ := h1_5.shape
  go_enter Try.func7, Try.ntmps7
  go_wp2_with fail
  refine (szView_c _ _ _ _ _ _ _ _ _ (length_dues _) _ (h0_5.ext (by repeat' (first | (with_reducible exact Ext.refl _) | (with_reducible assumption) | (with_reducible refine Ext.drewN ?_ _) | (with_reducible refine Ext.drew ?_) | (with_reducible refine Ext.alloc ?_ _) | (with_reducible refine Ext.setCell ?_ ?_ _) | (with_reducible refine Ext.setRow ?_ ?_ _) | (with_reducible exact Nat.le_refl _) | (with_reducible refine Ext.trans ?_ (by assumption)) | omega))) (by omega) (by omega)).mono ?_
  rintro e w1 ⟨v1, rfl, hx1, hv1⟩
  have X1 : Ext w w1 := by repeat' (first | (with_reducible exact Ext.refl _) | (with_reducible assumption) | (with_reducible refine Ext.drewN ?_ _) | (with_reducible refine Ext.drew ?_) | (with_reducible refine Ext.alloc ?_ _) | (with_reducible refine Ext.setCell ?_ ?_ _) | (with_reducible refine Ext.setRow ?_ ?_ _) | (with_reducible exact Nat.le_refl _) | (with_reducible refine Ext.trans ?_ (by assumption)) | omega)
  have Ba0 : Blk w1 w.heap.size 26 #[.int .i64 c0_0, .int .i64 c0_1, .int .i64 c0_2, .int .i64 c0_3, .int .i64 c0_4, .slice a0_5 n0_5 k0_5] := (Blk.new w 26 #[.int .i64 c0_0, .int .i64 c0_1, .int .i64 c0_2, .int .i64 c0_3, .int .i64 c0_4, .slice a0_5 n0_5 k0_5]).ext (Ext.trans ((Ext.refl _).alloc _) hx1)
  have MBa0 := Ba0.lt
  have Ba1 : Blk w1 (w.heap.size + 1) 24 #[.int .i64 c1_0, .int .i64 c1_1, .int .i64 c1_2, .int .i64 c1_3, .int .i64 c1_4, .slice a1_5 n1_5 k1_5] := (Blk.new2 w _ 24 #[.int .i64 c1_0, .int .i64 c1_1, .int .i64 c1_2, .int .i64 c1_3, .int .i64 c1_4, .slice a1_5 n1_5 k1_5]).ext (Ext.trans (Ext.refl _) hx1)
  have MBa1 := Ba1.lt
  have Z1 := X1.size
  have E1 : Ext w w1 := X1
  clear hx1
  have CBa0 := Ba0.cell; have LBa0 := Ba0.lt
  have CBa1 := Ba1.cell; have LBa1 := Ba1.lt
  rcases hv1 with ⟨rfl, q1⟩ | ⟨rfl, q1⟩
  · go_wp2; go_ret; exact ⟨rfl, by repeat' (first | (with_reducible exact Ext.refl _) | (with_reducible assumption) | (with_reducible refine Ext.drewN ?_ _) | (with_reducible refine Ext.drew ?_) | (with_reducible refine Ext.alloc ?_ _) | (with_reducible refine Ext.setCell ?_ ?_ _) | (with_reducible refine Ext.setRow ?_ ?_ _) | (with_reducible exact Nat.le_refl _) | (with_reducible refine Ext.trans ?_ (by assumption)) | omega)⟩
  have q0_5 : l0_5.length ≤ 1048576 := by omega
  go_wp2_with fail
  refine (szJobs_c _ _ _ _ _ _ _ _ _ (length_dues _) _ (h1_5.ext (by repeat' (first | (with_reducible exact Ext.refl _) | (with_reducible assumption) | (with_reducible refine Ext.drewN ?_ _) | (with_reducible refine Ext.drew ?_) | (with_reducible refine Ext.alloc ?_ _) | (with_reducible refine Ext.setCell ?_ ?_ _) | (with_reducible refine Ext.setRow ?_ ?_ _) | (with_reducible exact Nat.le_refl _) | (with_reducible refine Ext.trans ?_ (by assumption)) | omega))) (by omega) (by omega)).mono ?_
  rintro e w2 ⟨v2, rfl, hx2, hv2⟩
  have X2 : Ext w1 w2 := by repeat' (first | (with_reducible exact Ext.refl _) | (with_reducible assumption) | (with_reducible refine Ext.drewN ?_ _) | (with_reducible refine Ext.drew ?_) | (with_reducible refine Ext.alloc ?_ _) | (with_reducible refine Ext.setCell ?_ ?_ _) | (with_reducible refine Ext.setRow ?_ ?_ _) | (with_reducible exact Nat.le_refl _) | (with_reducible refine Ext.trans ?_ (by assumption)) | omega)
  have Z2 := X2.size
  have E2 : Ext w w2 := E1.trans X2
  have Ba0 := Ba0.ext X2
  have Ba1 := Ba1.ext X2
  clear hx2
  clear CBa0 LBa0 CBa1 LBa1
  have CBa0 := Ba0.cell; have LBa0 := Ba0.lt
  have CBa1 := Ba1.cell; have LBa1 := Ba1.lt
  rcases hv2 with ⟨rfl, q2⟩ | ⟨rfl, q2⟩
  · go_wp2; go_ret; exact ⟨rfl, by repeat' (first | (with_reducible exact Ext.refl _) | (with_reducible assumption) | (with_reducible refine Ext.drewN ?_ _) | (with_reducible refine Ext.drew ?_) | (with_reducible refine Ext.alloc ?_ _) | (with_reducible refine Ext.setCell ?_ ?_ _) | (with_reducible refine Ext.setRow ?_ ?_ _) | (with_reducible exact Nat.le_refl _) | (with_reducible refine Ext.trans ?_ (by assumption)) | omega)⟩
  have q1_5 : l1_5.length ≤ 1048576 := by omega
  go_wp2_with fail
  have b0_0 : ∀ w', Ext w2 w' → w'.cell? ⟨_, 0, none⟩ = some (.int .i64 c0_0) := fun w' hw => (Ba0.ext hw).cell 0
  have b0_1 : ∀ w', Ext w2 w' → w'.cell? ⟨_, 1, none⟩ = some (.int .i64 c0_1) := fun w' hw => (Ba0.ext hw).cell 1
  have b0_2 : ∀ w', Ext w2 w' → w'.cell? ⟨_, 2, none⟩ = some (.int .i64 c0_2) := fun w' hw => (Ba0.ext hw).cell 2
  have b0_3 : ∀ w', Ext w2 w' → w'.cell? ⟨_, 3, none⟩ = some (.int .i64 c0_3) := fun w' hw => (Ba0.ext hw).cell 3
  have b0_4 : ∀ w', Ext w2 w' → w'.cell? ⟨_, 4, none⟩ = some (.int .i64 c0_4) := fun w' hw => (Ba0.ext hw).cell 4
  have b0_5 : ∀ w', Ext w2 w' → w'.cell? ⟨_, 5, none⟩ = some (.slice a0_5 n0_5 k0_5) := fun w' hw => (Ba0.ext hw).cell 5
  have b1_0 : ∀ w', Ext w2 w' → w'.cell? ⟨_, 0, none⟩ = some (.int .i64 c1_0) := fun w' hw => (Ba1.ext hw).cell 0
  have b1_1 : ∀ w', Ext w2 w' → w'.cell? ⟨_, 1, none⟩ = some (.int .i64 c1_1) := fun w' hw => (Ba1.ext hw).cell 1
  have b1_2 : ∀ w', Ext w2 w' → w'.cell? ⟨_, 2, none⟩ = some (.int .i64 c1_2) := fun w' hw => (Ba1.ext hw).cell 2
  have b1_3 : ∀ w', Ext w2 w' → w'.cell? ⟨_, 3, none⟩ = some (.int .i64 c1_3) := fun w' hw => (Ba1.ext hw).cell 3
  have b1_4 : ∀ w', Ext w2 w' → w'.cell? ⟨_, 4, none⟩ = some (.int .i64 c1_4) := fun w' hw => (Ba1.ext hw).cell 4
  have b1_5 : ∀ w', Ext w2 w' → w'.cell? ⟨_, 5, none⟩ = some (.slice a1_5 n1_5 k1_5) := fun w' hw => (Ba1.ext hw).cell 5
  clear CBa0 LBa0 CBa1 LBa1
  go_cut [6] (fun sx wx => ∃ gg : Nat, sx = .pointer (some ⟨gg, 0, none⟩) ∧ Ext w2 wx ∧ w2.heap.size ≤ gg ∧ ∃ tw0_5 : Value, Blk wx gg 33 #[.int .i64 (heardView (⟨⟨c0_0, c0_1, c0_2, c0_3, c0_4, l0_5⟩⟩ : DView) (⟨c1_0, c1_1, c1_2, c1_3, c1_4, l1_5⟩ : DJobs)).Jobs.Index, .int .i64 (heardView (⟨⟨c0_0, c0_1, c0_2, c0_3, c0_4, l0_5⟩⟩ : DView) (⟨c1_0, c1_1, c1_2, c1_3, c1_4, l1_5⟩ : DJobs)).Jobs.Time, .int .i64 (heardView (⟨⟨c0_0, c0_1, c0_2, c0_3, c0_4, l0_5⟩⟩ : DView) (⟨c1_0, c1_1, c1_2, c1_3, c1_4, l1_5⟩ : DJobs)).Jobs.Holder, .int .i64 (heardView (⟨⟨c0_0, c0_1, c0_2, c0_3, c0_4, l0_5⟩⟩ : DView) (⟨c1_0, c1_1, c1_2, c1_3, c1_4, l1_5⟩ : DJobs)).Jobs.Epoch, .int .i64 (heardView (⟨⟨c0_0, c0_1, c0_2, c0_3, c0_4, l0_5⟩⟩ : DView) (⟨c1_0, c1_1, c1_2, c1_3, c1_4, l1_5⟩ : DJobs)).Jobs.Until, tw0_5] ∧ OwnI w2.heap.size 65 2 wx tw0_5 (dues (heardView (⟨⟨c0_0, c0_1, c0_2, c0_3, c0_4, l0_5⟩⟩ : DView) (⟨c1_0, c1_1, c1_2, c1_3, c1_4, l1_5⟩ : DJobs)).Jobs.Open) ∧ (∀ k, k ∈ feet [tw0_5] → k ≠ gg ∧ k < wx.heap.size))
  case first =>
    go_region_held3 (fun w' => Ext w2 w') (repeat' (first | (with_reducible exact Ext.refl _) | (with_reducible assumption) | (with_reducible refine Ext.drewN ?_ _) | (with_reducible refine Ext.drew ?_) | (with_reducible refine Ext.alloc ?_ _) | (with_reducible refine Ext.setCell ?_ ?_ _) | (with_reducible refine Ext.setRow ?_ ?_ _) | (with_reducible exact Nat.le_refl _) | (with_reducible refine Ext.trans ?_ (by assumption)) | omega)) (first | (go_at_call 11; refine (toView_c _ _ _ _ _ _ _ _ _ (length_dues _) (h0_5.ext (E2.trans (by repeat' (first | (with_reducible exact Ext.refl _) | (with_reducible refine Ext.drewN ?_ _) | (with_reducible refine Ext.drew ?_) | (with_reducible refine Ext.alloc ?_ _) | (with_reducible refine Ext.setCell ?_ ?_ _) | (with_reducible refine Ext.trans ?_ hyf) | (with_reducible refine Ext.trans ?_ hy1) | (with_reducible refine Ext.trans ?_ hy0) | (with_reducible assumption) | omega)))) q0_5).mono ?_; rintro e wv0 ⟨_, rfl, hy0, tv0_5, rfl, gv0_5⟩; obtain ⟨av0_5, nv0_5, kv0_5, rfl⟩ := gv0_5.shape; have hzhy0 := hy0.size; obtain ⟨hchy0, hdhy0⟩ := hy0.cells; (try simp only [World.size_alloc, size_drew] at hzhy0 hchy0 hdhy0); (try have hqhy0w2 : w2.heap.size < wv0.heap.size := (by omega)); (try have hqhy0wv1 : wv1.heap.size < wv0.heap.size := (by omega)); (try have hqhy0wf : wf.heap.size < wv0.heap.size := (by omega))) | (go_at_call 22; refine (toJobs_c _ _ _ _ _ _ _ _ _ (length_dues _) (h1_5.ext (E2.trans (by repeat' (first | (with_reducible exact Ext.refl _) | (with_reducible refine Ext.drewN ?_ _) | (with_reducible refine Ext.drew ?_) | (with_reducible refine Ext.alloc ?_ _) | (with_reducible refine Ext.setCell ?_ ?_ _) | (with_reducible refine Ext.trans ?_ hyf) | (with_reducible refine Ext.trans ?_ hy1) | (with_reducible refine Ext.trans ?_ hy0) | (with_reducible assumption) | omega)))) q1_5).mono ?_; rintro e wv1 ⟨_, rfl, hy1, tv1_5, rfl, gv1_5⟩; obtain ⟨av1_5, nv1_5, kv1_5, rfl⟩ := gv1_5.shape; have hzhy1 := hy1.size; obtain ⟨hchy1, hdhy1⟩ := hy1.cells; (try simp only [World.size_alloc, size_drew] at hzhy1 hchy1 hdhy1); (try have hqhy1w2 : w2.heap.size < wv1.heap.size := (by omega)); (try have hqhy1wv0 : wv0.heap.size < wv1.heap.size := (by omega)); (try have hqhy1wf : wf.heap.size < wv1.heap.size := (by omega))) | (go_at_call 21; refine (sHeardJobs_l _ _ _ _ _ _ _ _ _ _ _ _ _ _ _ ((gv0_5.ints).ext (by repeat' (first | (with_reducible exact Ext.refl _) | (with_reducible refine Ext.drewN ?_ _) | (with_reducible refine Ext.drew ?_) | (with_reducible refine Ext.alloc ?_ _) | (with_reducible refine Ext.setCell ?_ ?_ _) | (with_reducible refine Ext.trans ?_ hyf) | (with_reducible refine Ext.trans ?_ hy1) | (with_reducible refine Ext.trans ?_ hy0) | (with_reducible assumption) | omega))) ((gv1_5.ints).ext (by repeat' (first | (with_reducible exact Ext.refl _) | (with_reducible refine Ext.drewN ?_ _) | (with_reducible refine Ext.drew ?_) | (with_reducible refine Ext.alloc ?_ _) | (with_reducible refine Ext.setCell ?_ ?_ _) | (with_reducible refine Ext.trans ?_ hyf) | (with_reducible refine Ext.trans ?_ hy1) | (with_reducible refine Ext.trans ?_ hy0) | (with_reducible assumption) | omega)))).mono ?_; rintro e wf ⟨_, rfl, hyf, ⟨tw0_5, rfl, gf_5⟩⟩; obtain ⟨af_5, nf_5, kf_5, rfl⟩ := gf_5.shape; have bf_5 := gf_5.foot; (try simp only [World.size_alloc, size_drew] at bf_5); have hzhyf := hyf.size; obtain ⟨hchyf, hdhyf⟩ := hyf.cells; (try simp only [World.size_alloc, size_drew] at hzhyf hchyf hdhyf); (try have hqhyfw2 : w2.heap.size < wf.heap.size := (by omega)); (try have hqhyfwv0 : wv0.heap.size < wf.heap.size := (by omega)); (try have hqhyfwv1 : wv1.heap.size < wf.heap.size := (by omega))))
    all_goals clear b0_0 b0_1 b0_2 b0_3 b0_4 b0_5 b1_0 b1_1 b1_2 b1_3 b1_4 b1_5 hchyf hdhyf hchy1 hdhy1 hchy0 hdhy0
    all_goals go_wp2_with fail
    all_goals go_meet
    all_goals case rel =>
      (try simp only [World.size_alloc, size_drew] at *)
      refine ⟨_, rfl, by repeat' (first | (with_reducible exact Ext.refl _) | (with_reducible assumption) | (with_reducible refine Ext.drewN ?_ _) | (with_reducible refine Ext.drew ?_) | (with_reducible refine Ext.alloc ?_ _) | (with_reducible refine Ext.setCell ?_ ?_ _) | (with_reducible refine Ext.setRow ?_ ?_ _) | (with_reducible exact Nat.le_refl _) | (with_reducible refine Ext.trans ?_ (by assumption)) | omega), by omega, _, Blk.cast (by repeat' (first | (with_reducible assumption) | (with_reducible exact Blk.new _ _ _) | (with_reducible exact Blk.new2 _ _ _ _) | (with_reducible exact Blk.new3 _ _ _ _ _) | (with_reducible (apply Blk.ext; rotate_left; exact hyf)) | (with_reducible (apply Blk.ext; rotate_left; exact hy1)) | (with_reducible (apply Blk.ext; rotate_left; exact hy0)) | (with_reducible apply Blk.drew) | (with_reducible apply Blk.alloc) | (with_reducible apply Blk.set_) | (with_reducible apply Blk.row) | (with_reducible apply Blk.far) | (with_reducible apply Blk.rowFar) | omega | (simp; omega))) (by simp), OwnI.mono (OwnI.keep gf_5 (by repeat' (first | (with_reducible exact Chg.refl _ _) | (with_reducible refine Chg.drewN ?_ _) | (with_reducible refine Chg.drew ?_) | (with_reducible refine Chg.alloc ?_ _) | (with_reducible refine Chg.setLow ?_ (by omega) _) | (with_reducible refine Chg.setNew ?_ (by omega) _) | (with_reducible refine Chg.setRow ?_ (by omega) _) | (with_reducible refine Chg.ext ?_ (by assumption)) | omega))) (by (try simp only [World.size_alloc, size_drew]); omega), fun k hk => (by have := bf_5 k hk; (repeat (first | rw [World.size_setCell] | rw [World.size_alloc])); omega)⟩
  case rest =>
    revert wc; intro w3 hcut
    obtain ⟨gwb, rfl, X3, hge3, tw0_5, Bw0, gw0_5, bw0_5⟩ := hcut
    clear b0_0 b0_1 b0_2 b0_3 b0_4 b0_5 b1_0 b1_1 b1_2 b1_3 b1_4 b1_5
    have MBw0 := Bw0.lt
    have Z3 := X3.size; have E3 : Ext w w3 := E2.trans X3
    have Ba0 := Ba0.ext X3
    have Ba1 := Ba1.ext X3
    obtain ⟨aw0_5, nw0_5, kw0_5, rfl⟩ := gw0_5.shape
    have bbw0_5 := gw0_5.foot
    have CBa0 := Ba0.cell; have LBa0 := Ba0.lt
    have CBa1 := Ba1.cell; have LBa1 := Ba1.lt
    have CBw0 := Bw0.cell; have LBw0 := Bw0.lt
    go_wp2_with fail
    refine (toView_c _ _ _ _ _ _ _ _ _ (length_dues _) (h0_5.ext (E3.trans (by repeat' (first | (with_reducible exact Ext.refl _) | (with_reducible assumption) | (with_reducible refine Ext.drewN ?_ _) | (with_reducible refine Ext.drew ?_) | (with_reducible refine Ext.alloc ?_ _) | (with_reducible refine Ext.setCell ?_ ?_ _) | (with_reducible refine Ext.setRow ?_ ?_ _) | (with_reducible exact Nat.le_refl _) | (with_reducible refine Ext.trans ?_ (by assumption)) | omega)))) q0_5).mono ?_
    rintro e w4 ⟨_, rfl, hx4, tx0_5, rfl, gx0_5⟩
    have X4 : Ext w3 w4 := by repeat' (first | (with_reducible exact Ext.refl _) | (with_reducible assumption) | (with_reducible refine Ext.drewN ?_ _) | (with_reducible refine Ext.drew ?_) | (with_reducible refine Ext.alloc ?_ _) | (with_reducible refine Ext.setCell ?_ ?_ _) | (with_reducible refine Ext.setRow ?_ ?_ _) | (with_reducible exact Nat.le_refl _) | (with_reducible refine Ext.trans ?_ (by assumption)) | omega)
    have Z4 := X4.size
    have E4 : Ext w w4 := E3.trans X4
    have Ba0 := Ba0.ext X4
    have Ba1 := Ba1.ext X4
    have gw0_5 := gw0_5.ext X4
    have Bw0 := Bw0.ext X4
    clear hx4
    clear CBa0 LBa0 CBa1 LBa1 CBw0 LBw0
    have CBa0 := Ba0.cell; have LBa0 := Ba0.lt
    have CBa1 := Ba1.cell; have LBa1 := Ba1.lt
    have CBw0 := Bw0.cell; have LBw0 := Bw0.lt
    obtain ⟨ax0_5, nx0_5, kx0_5, rfl⟩ := gx0_5.shape
    have bx0_5 := gx0_5.foot; (try simp only [World.size_alloc] at bx0_5)
    go_wp2_with fail
    refine (toJobs_c _ _ _ _ _ _ _ _ _ (length_dues _) (h1_5.ext (E4.trans (by repeat' (first | (with_reducible exact Ext.refl _) | (with_reducible assumption) | (with_reducible refine Ext.drewN ?_ _) | (with_reducible refine Ext.drew ?_) | (with_reducible refine Ext.alloc ?_ _) | (with_reducible refine Ext.setCell ?_ ?_ _) | (with_reducible refine Ext.setRow ?_ ?_ _) | (with_reducible exact Nat.le_refl _) | (with_reducible refine Ext.trans ?_ (by assumption)) | omega)))) q1_5).mono ?_
    rintro e w5 ⟨_, rfl, hx5, tx1_5, rfl, gx1_5⟩
    have X5 : Ext w4 w5 := by repeat' (first | (with_reducible exact Ext.refl _) | (with_reducible assumption) | (with_reducible refine Ext.drewN ?_ _) | (with_reducible refine Ext.drew ?_) | (with_reducible refine Ext.alloc ?_ _) | (with_reducible refine Ext.setCell ?_ ?_ _) | (with_reducible refine Ext.setRow ?_ ?_ _) | (with_reducible exact Nat.le_refl _) | (with_reducible refine Ext.trans ?_ (by assumption)) | omega)
    have Bx0 : Blk w5 w4.heap.size 33 #[.int .i64 c0_0, .int .i64 c0_1, .int .i64 c0_2, .int .i64 c0_3, .int .i64 c0_4, .slice ax0_5 nx0_5 kx0_5] := (Blk.new w4 33 #[.int .i64 c0_0, .int .i64 c0_1, .int .i64 c0_2, .int .i64 c0_3, .int .i64 c0_4, .slice ax0_5 nx0_5 kx0_5]).ext (Ext.trans (Ext.refl _) hx5)
    have MBx0 := Bx0.lt
    have Z5 := X5.size
    have E5 : Ext w w5 := E4.trans X5
    have Ba0 := Ba0.ext X5
    have Ba1 := Ba1.ext X5
    have gw0_5 := gw0_5.ext X5
    have Bw0 := Bw0.ext X5
    have gx0_5 := gx0_5.ext X5
    clear hx5
    clear CBa0 LBa0 CBa1 LBa1 CBw0 LBw0
    have CBa0 := Ba0.cell; have LBa0 := Ba0.lt
    have CBa1 := Ba1.cell; have LBa1 := Ba1.lt
    have CBw0 := Bw0.cell; have LBw0 := Bw0.lt
    have CBx0 := Bx0.cell; have LBx0 := Bx0.lt
    obtain ⟨ax1_5, nx1_5, kx1_5, rfl⟩ := gx1_5.shape
    have bx1_5 := gx1_5.foot; (try simp only [World.size_alloc] at bx1_5)
    go_wp2_with fail
    refine (heardJobs_l _ _ _ _ _ _ _ _ _ _ _ _ _ _ _ ((gx0_5.ints).ext (by repeat' (first | (with_reducible exact Ext.refl _) | (with_reducible assumption) | (with_reducible refine Ext.drewN ?_ _) | (with_reducible refine Ext.drew ?_) | (with_reducible refine Ext.alloc ?_ _) | (with_reducible refine Ext.setCell ?_ ?_ _) | (with_reducible refine Ext.setRow ?_ ?_ _) | (with_reducible exact Nat.le_refl _) | (with_reducible refine Ext.trans ?_ (by assumption)) | omega))) ((gx1_5.ints).ext (by repeat' (first | (with_reducible exact Ext.refl _) | (with_reducible assumption) | (with_reducible refine Ext.drewN ?_ _) | (with_reducible refine Ext.drew ?_) | (with_reducible refine Ext.alloc ?_ _) | (with_reducible refine Ext.setCell ?_ ?_ _) | (with_reducible refine Ext.setRow ?_ ?_ _) | (with_reducible exact Nat.le_refl _) | (with_reducible refine Ext.trans ?_ (by assumption)) | omega)))).mono ?_
    rintro e w6 ⟨_, rfl, hx6, ⟨tg0_5, rfl, gg0_5⟩⟩
    have X6 : Ext w5 w6 := by repeat' (first | (with_reducible exact Ext.refl _) | (with_reducible assumption) | (with_reducible refine Ext.drewN ?_ _) | (with_reducible refine Ext.drew ?_) | (with_reducible refine Ext.alloc ?_ _) | (with_reducible refine Ext.setCell ?_ ?_ _) | (with_reducible refine Ext.setRow ?_ ?_ _) | (with_reducible exact Nat.le_refl _) | (with_reducible refine Ext.trans ?_ (by assumption)) | omega)
    have Bx1 : Blk w6 w5.heap.size 31 #[.int .i64 c1_0, .int .i64 c1_1, .int .i64 c1_2, .int .i64 c1_3, .int .i64 c1_4, .slice ax1_5 nx1_5 kx1_5] := (Blk.new w5 31 #[.int .i64 c1_0, .int .i64 c1_1, .int .i64 c1_2, .int .i64 c1_3, .int .i64 c1_4, .slice ax1_5 nx1_5 kx1_5]).ext (Ext.trans (Ext.refl _) hx6)
    have MBx1 := Bx1.lt
    have Z6 := X6.size
    have E6 : Ext w w6 := E5.trans X6
    have Ba0 := Ba0.ext X6
    have Ba1 := Ba1.ext X6
    have gw0_5 := gw0_5.ext X6
    have Bw0 := Bw0.ext X6
    have gx0_5 := gx0_5.ext X6
    have Bx0 := Bx0.ext X6
    have gx1_5 := gx1_5.ext X6
    clear hx6
    clear CBa0 LBa0 CBa1 LBa1 CBw0 LBw0 CBx0 LBx0
    have CBa0 := Ba0.cell; have LBa0 := Ba0.lt
    have CBa1 := Ba1.cell; have LBa1 := Ba1.lt
    have CBw0 := Bw0.cell; have LBw0 := Bw0.lt
    have CBx0 := Bx0.cell; have LBx0 := Bx0.lt
    have CBx1 := Bx1.cell; have LBx1 := Bx1.lt
    obtain ⟨ag0_5, ng0_5, kg0_5, rfl⟩ := gg0_5.shape
    have bg0_5 := gg0_5.foot; (try simp only [World.size_alloc] at bg0_5)
    as_aux_lemma =>
      go_wp2_with fail
      refine (eqView_c _ _ _ _ _ _ _ _ _ ((gg0_5.ints).ext (by repeat' (first | (with_reducible exact Ext.refl _) | (with_reducible assumption) | (with_reducible refine Ext.drewN ?_ _) | (with_reducible refine Ext.drew ?_) | (with_reducible refine Ext.alloc ?_ _) | (with_reducible refine Ext.setCell ?_ ?_ _) | (with_reducible refine Ext.setRow ?_ ?_ _) | (with_reducible exact Nat.le_refl _) | (with_reducible refine Ext.trans ?_ (by assumption)) | omega))) ((gw0_5.ints).ext (by repeat' (first | (with_reducible exact Ext.refl _) | (with_reducible assumption) | (with_reducible refine Ext.drewN ?_ _) | (with_reducible refine Ext.drew ?_) | (with_reducible refine Ext.alloc ?_ _) | (with_reducible refine Ext.setCell ?_ ?_ _) | (with_reducible refine Ext.setRow ?_ ?_ _) | (with_reducible exact Nat.le_refl _) | (with_reducible refine Ext.trans ?_ (by assumption)) | omega)))).mono ?_
      rintro e w7 ⟨rfl, hx7⟩
      have X7 : Ext w6 w7 := by repeat' (first | (with_reducible exact Ext.refl _) | (with_reducible assumption) | (with_reducible refine Ext.drewN ?_ _) | (with_reducible refine Ext.drew ?_) | (with_reducible refine Ext.alloc ?_ _) | (with_reducible refine Ext.setCell ?_ ?_ _) | (with_reducible refine Ext.setRow ?_ ?_ _) | (with_reducible exact Nat.le_refl _) | (with_reducible refine Ext.trans ?_ (by assumption)) | omega)
      have Bg0 : Blk w7 w6.heap.size 33 #[.int .i64 (heardView (⟨⟨c0_0, c0_1, c0_2, c0_3, c0_4, l0_5⟩⟩ : DView) (⟨c1_0, c1_1, c1_2, c1_3, c1_4, l1_5⟩ : DJobs)).Jobs.Index, .int .i64 (heardView (⟨⟨c0_0, c0_1, c0_2, c0_3, c0_4, l0_5⟩⟩ : DView) (⟨c1_0, c1_1, c1_2, c1_3, c1_4, l1_5⟩ : DJobs)).Jobs.Time, .int .i64 (heardView (⟨⟨c0_0, c0_1, c0_2, c0_3, c0_4, l0_5⟩⟩ : DView) (⟨c1_0, c1_1, c1_2, c1_3, c1_4, l1_5⟩ : DJobs)).Jobs.Holder, .int .i64 (heardView (⟨⟨c0_0, c0_1, c0_2, c0_3, c0_4, l0_5⟩⟩ : DView) (⟨c1_0, c1_1, c1_2, c1_3, c1_4, l1_5⟩ : DJobs)).Jobs.Epoch, .int .i64 (heardView (⟨⟨c0_0, c0_1, c0_2, c0_3, c0_4, l0_5⟩⟩ : DView) (⟨c1_0, c1_1, c1_2, c1_3, c1_4, l1_5⟩ : DJobs)).Jobs.Until, .slice ag0_5 ng0_5 kg0_5] := (Blk.new w6 33 #[.int .i64 (heardView (⟨⟨c0_0, c0_1, c0_2, c0_3, c0_4, l0_5⟩⟩ : DView) (⟨c1_0, c1_1, c1_2, c1_3, c1_4, l1_5⟩ : DJobs)).Jobs.Index, .int .i64 (heardView (⟨⟨c0_0, c0_1, c0_2, c0_3, c0_4, l0_5⟩⟩ : DView) (⟨c1_0, c1_1, c1_2, c1_3, c1_4, l1_5⟩ : DJobs)).Jobs.Time, .int .i64 (heardView (⟨⟨c0_0, c0_1, c0_2, c0_3, c0_4, l0_5⟩⟩ : DView) (⟨c1_0, c1_1, c1_2, c1_3, c1_4, l1_5⟩ : DJobs)).Jobs.Holder, .int .i64 (heardView (⟨⟨c0_0, c0_1, c0_2, c0_3, c0_4, l0_5⟩⟩ : DView) (⟨c1_0, c1_1, c1_2, c1_3, c1_4, l1_5⟩ : DJobs)).Jobs.Epoch, .int .i64 (heardView (⟨⟨c0_0, c0_1, c0_2, c0_3, c0_4, l0_5⟩⟩ : DView) (⟨c1_0, c1_1, c1_2, c1_3, c1_4, l1_5⟩ : DJobs)).Jobs.Until, .slice ag0_5 ng0_5 kg0_5]).ext (Ext.trans (Ext.refl _) hx7)
      have MBg0 := Bg0.lt
      have Z7 := X7.size
      have E7 : Ext w w7 := E6.trans X7
      have Ba0 := Ba0.ext X7
      have Ba1 := Ba1.ext X7
      have gw0_5 := gw0_5.ext X7
      have Bw0 := Bw0.ext X7
      have gx0_5 := gx0_5.ext X7
      have Bx0 := Bx0.ext X7
      have gx1_5 := gx1_5.ext X7
      have Bx1 := Bx1.ext X7
      have gg0_5 := gg0_5.ext X7
      clear hx7
      clear CBa0 LBa0 CBa1 LBa1 CBw0 LBw0 CBx0 LBx0 CBx1 LBx1
      have CBa0 := Ba0.cell; have LBa0 := Ba0.lt
      have CBa1 := Ba1.cell; have LBa1 := Ba1.lt
      have CBw0 := Bw0.cell; have LBw0 := Bw0.lt
      have CBx0 := Bx0.cell; have LBx0 := Bx0.lt
      have CBx1 := Bx1.cell; have LBx1 := Bx1.lt
      have CBg0 := Bg0.cell; have LBg0 := Bg0.lt
      go_wp2_with fail
      have p00 : ∀ w', Ext w7 w' → w'.cell? ⟨_, 0, none⟩ = some (.int .i64 c0_0) := fun w' hw => (Ba0.ext hw).cell 0
      have p01 : ∀ w', Ext w7 w' → w'.cell? ⟨_, 1, none⟩ = some (.int .i64 c0_1) := fun w' hw => (Ba0.ext hw).cell 1
      have p02 : ∀ w', Ext w7 w' → w'.cell? ⟨_, 2, none⟩ = some (.int .i64 c0_2) := fun w' hw => (Ba0.ext hw).cell 2
      have p03 : ∀ w', Ext w7 w' → w'.cell? ⟨_, 3, none⟩ = some (.int .i64 c0_3) := fun w' hw => (Ba0.ext hw).cell 3
      have p04 : ∀ w', Ext w7 w' → w'.cell? ⟨_, 4, none⟩ = some (.int .i64 c0_4) := fun w' hw => (Ba0.ext hw).cell 4
      have p05 : ∀ w', Ext w7 w' → w'.cell? ⟨_, 5, none⟩ = some (.slice a0_5 n0_5 k0_5) := fun w' hw => (Ba0.ext hw).cell 5
      have q00 : ∀ w', Ext w7 w' → w'.cell? ⟨_, 0, none⟩ = some (.int .i64 c0_0) := fun w' hw => (Bx0.ext hw).cell 0
      have q01 : ∀ w', Ext w7 w' → w'.cell? ⟨_, 1, none⟩ = some (.int .i64 c0_1) := fun w' hw => (Bx0.ext hw).cell 1
      have q02 : ∀ w', Ext w7 w' → w'.cell? ⟨_, 2, none⟩ = some (.int .i64 c0_2) := fun w' hw => (Bx0.ext hw).cell 2
      have q03 : ∀ w', Ext w7 w' → w'.cell? ⟨_, 3, none⟩ = some (.int .i64 c0_3) := fun w' hw => (Bx0.ext hw).cell 3
      have q04 : ∀ w', Ext w7 w' → w'.cell? ⟨_, 4, none⟩ = some (.int .i64 c0_4) := fun w' hw => (Bx0.ext hw).cell 4
      have q05 : ∀ w', Ext w7 w' → w'.cell? ⟨_, 5, none⟩ = some (.slice ax0_5 nx0_5 kx0_5) := fun w' hw => (Bx0.ext hw).cell 5
      clear CBa0 LBa0 CBa1 LBa1 CBw0 LBw0 CBx0 LBx0 CBx1 LBx1 CBg0 LBg0
      go_region_held3 (fun w' => Ext w7 w') (first | exact Ext.drew (Ext.refl _) | exact Ext.trans (by assumption) hx8 | exact Ext.trans (by assumption) hx9) (first | (go_at_call 11; refine (toView_c _ _ _ _ _ _ _ _ _ (length_dues _) (h0_5.ext (Ext.trans E7 (by assumption))) q0_5).mono ?_; rintro e w8 ⟨_, rfl, hx8, tz0_5, rfl, gz0_5⟩; obtain ⟨az0_5, nz0_5, kz0_5, rfl⟩ := gz0_5.shape) | (go_at_call 13; refine (eqView_c _ _ _ _ _ _ _ _ _ ((gx0_5.ints).ext (by assumption)) (gz0_5.ints)).mono ?_; rintro e w9 ⟨rfl, hx9⟩))
      have X9 : Ext w7 w9 := by assumption
      clear p00 p01 p02 p03 p04 p05 q00 q01 q02 q03 q04 q05
      clear hx9
      have Z9 := X9.size; have E9 : Ext w w9 := E7.trans X9
      have Ba0 := Ba0.ext X9
      have Ba1 := Ba1.ext X9
      have gw0_5 := gw0_5.ext X9
      have Bw0 := Bw0.ext X9
      have gx0_5 := gx0_5.ext X9
      have Bx0 := Bx0.ext X9
      have gx1_5 := gx1_5.ext X9
      have Bx1 := Bx1.ext X9
      have gg0_5 := gg0_5.ext X9
      have Bg0 := Bg0.ext X9
      have CBa0 := Ba0.cell; have LBa0 := Ba0.lt
      have CBa1 := Ba1.cell; have LBa1 := Ba1.lt
      have CBw0 := Bw0.cell; have LBw0 := Bw0.lt
      have CBx0 := Bx0.cell; have LBx0 := Bx0.lt
      have CBx1 := Bx1.cell; have LBx1 := Bx1.lt
      have CBg0 := Bg0.cell; have LBg0 := Bg0.lt
      go_wp2_with fail
      have p10 : ∀ w', Ext w9 w' → w'.cell? ⟨_, 0, none⟩ = some (.int .i64 c1_0) := fun w' hw => (Ba1.ext hw).cell 0
      have p11 : ∀ w', Ext w9 w' → w'.cell? ⟨_, 1, none⟩ = some (.int .i64 c1_1) := fun w' hw => (Ba1.ext hw).cell 1
      have p12 : ∀ w', Ext w9 w' → w'.cell? ⟨_, 2, none⟩ = some (.int .i64 c1_2) := fun w' hw => (Ba1.ext hw).cell 2
      have p13 : ∀ w', Ext w9 w' → w'.cell? ⟨_, 3, none⟩ = some (.int .i64 c1_3) := fun w' hw => (Ba1.ext hw).cell 3
      have p14 : ∀ w', Ext w9 w' → w'.cell? ⟨_, 4, none⟩ = some (.int .i64 c1_4) := fun w' hw => (Ba1.ext hw).cell 4
      have p15 : ∀ w', Ext w9 w' → w'.cell? ⟨_, 5, none⟩ = some (.slice a1_5 n1_5 k1_5) := fun w' hw => (Ba1.ext hw).cell 5
      have q10 : ∀ w', Ext w9 w' → w'.cell? ⟨_, 0, none⟩ = some (.int .i64 c1_0) := fun w' hw => (Bx1.ext hw).cell 0
      have q11 : ∀ w', Ext w9 w' → w'.cell? ⟨_, 1, none⟩ = some (.int .i64 c1_1) := fun w' hw => (Bx1.ext hw).cell 1
      have q12 : ∀ w', Ext w9 w' → w'.cell? ⟨_, 2, none⟩ = some (.int .i64 c1_2) := fun w' hw => (Bx1.ext hw).cell 2
      have q13 : ∀ w', Ext w9 w' → w'.cell? ⟨_, 3, none⟩ = some (.int .i64 c1_3) := fun w' hw => (Bx1.ext hw).cell 3
      have q14 : ∀ w', Ext w9 w' → w'.cell? ⟨_, 4, none⟩ = some (.int .i64 c1_4) := fun w' hw => (Bx1.ext hw).cell 4
      have q15 : ∀ w', Ext w9 w' → w'.cell? ⟨_, 5, none⟩ = some (.slice ax1_5 nx1_5 kx1_5) := fun w' hw => (Bx1.ext hw).cell 5
      clear CBa0 LBa0 CBa1 LBa1 CBw0 LBw0 CBx0 LBx0 CBx1 LBx1 CBg0 LBg0
      go_region_held3 (fun w' => Ext w9 w') (first | exact Ext.drew (Ext.refl _) | exact Ext.trans (by assumption) hx10 | exact Ext.trans (by assumption) hx11) (first | (go_at_call 22; refine (toJobs_c _ _ _ _ _ _ _ _ _ (length_dues _) (h1_5.ext (Ext.trans E9 (by assumption))) q1_5).mono ?_; rintro e w10 ⟨_, rfl, hx10, tz1_5, rfl, gz1_5⟩; obtain ⟨az1_5, nz1_5, kz1_5, rfl⟩ := gz1_5.shape) | (go_at_call 24; refine (eqJobs_c _ _ _ _ _ _ _ _ _ ((gx1_5.ints).ext (by assumption)) (gz1_5.ints)).mono ?_; rintro e w11 ⟨rfl, hx11⟩))
      have X11 : Ext w9 w11 := by assumption
      clear p10 p11 p12 p13 p14 p15 q10 q11 q12 q13 q14 q15
      clear hx11
      have Z11 := X11.size; have E11 : Ext w w11 := E9.trans X11
      have Ba0 := Ba0.ext X11
      have Ba1 := Ba1.ext X11
      have gw0_5 := gw0_5.ext X11
      have Bw0 := Bw0.ext X11
      have gx0_5 := gx0_5.ext X11
      have Bx0 := Bx0.ext X11
      have gx1_5 := gx1_5.ext X11
      have Bx1 := Bx1.ext X11
      have gg0_5 := gg0_5.ext X11
      have Bg0 := Bg0.ext X11
      have CBa0 := Ba0.cell; have LBa0 := Ba0.lt
      have CBa1 := Ba1.cell; have LBa1 := Ba1.lt
      have CBw0 := Bw0.cell; have LBw0 := Bw0.lt
      have CBx0 := Bx0.cell; have LBx0 := Bx0.lt
      have CBx1 := Bx1.cell; have LBx1 := Bx1.lt
      have CBg0 := Bg0.cell; have LBg0 := Bg0.lt
      as_aux_lemma =>
        go_wp2_with fail
        refine (markView_c _ _ _ _ _ _ _ _ _ _ (length_dues _) 1 (gx0_5.ext (by repeat' (first | (with_reducible exact Ext.refl _) | (with_reducible assumption) | (with_reducible refine Ext.drewN ?_ _) | (with_reducible refine Ext.drew ?_) | (with_reducible refine Ext.alloc ?_ _) | (with_reducible refine Ext.setCell ?_ ?_ _) | (with_reducible refine Ext.setRow ?_ ?_ _) | (with_reducible exact Nat.le_refl _) | (with_reducible refine Ext.trans ?_ (by assumption)) | omega))) (by omega) (by omega)).mono ?_
        rintro e w12 ⟨rfl, hx12, gx0_5m⟩
        have X12 : Upd w11 w12 (feet [.slice ax0_5 nx0_5 kx0_5]) := (Ext.upd (by repeat' (first | (with_reducible exact Ext.refl _) | (with_reducible assumption) | (with_reducible refine Ext.drewN ?_ _) | (with_reducible refine Ext.drew ?_) | (with_reducible refine Ext.alloc ?_ _) | (with_reducible refine Ext.setCell ?_ ?_ _) | (with_reducible refine Ext.setRow ?_ ?_ _) | (with_reducible exact Nat.le_refl _) | (with_reducible refine Ext.trans ?_ (by assumption)) | omega)) _).trans hx12
        have Z12 := X12.size
        have E12 : Ext w w12 := E11.upd_below X12 (fun k hk => by have := bx0_5 k hk; omega)
        have Ba0 := Ba0.upd X12 (fun hk => by have := bx0_5 _ hk; omega)
        have Ba1 := Ba1.upd X12 (fun hk => by have := bx0_5 _ hk; omega)
        have gw0_5 := OwnI.upd' gw0_5 X12 (fun k hk hk' => by have := bx0_5 k hk'; have := bw0_5 k hk; omega)
        have Bw0 := Bw0.upd X12 (fun hk => by have := bx0_5 _ hk; omega)
        have Bx0 := Bx0.upd X12 (fun hk => by have := bx0_5 _ hk; omega)
        have gx1_5 := OwnI.upd' gx1_5 X12 (fun k hk hk' => by have := bx0_5 k hk'; have := bx1_5 k hk; omega)
        have Bx1 := Bx1.upd X12 (fun hk => by have := bx0_5 _ hk; omega)
        have gg0_5 := OwnI.upd' gg0_5 X12 (fun k hk hk' => by have := bx0_5 k hk'; have := bg0_5 k hk; omega)
        have Bg0 := Bg0.upd X12 (fun hk => by have := bx0_5 _ hk; omega)
        have gx0_5 := gx0_5m; clear gx0_5m
        clear hx12
        clear CBa0 LBa0 CBa1 LBa1 CBw0 LBw0 CBx0 LBx0 CBx1 LBx1 CBg0 LBg0
        have CBa0 := Ba0.cell; have LBa0 := Ba0.lt
        have CBa1 := Ba1.cell; have LBa1 := Ba1.lt
        have CBw0 := Bw0.cell; have LBw0 := Bw0.lt
        have CBx0 := Bx0.cell; have LBx0 := Bx0.lt
        have CBx1 := Bx1.cell; have LBx1 := Bx1.lt
        have CBg0 := Bg0.cell; have LBg0 := Bg0.lt
        obtain ⟨M0, hM0⟩ : ∃ z : Int, z = 1 + ((l0_5.length * 2 : Nat) : Int) := ⟨_, rfl⟩
        rw [← hM0]
        have pM0 : 0 ≤ M0 ∧ M0 ≤ 4000000000 := by omega
        have HM0 := Lib.hid hM0; clear hM0; obtain ⟨pM0, pM0x⟩ := pM0; have dM0 : decide (M0 < 0) = false := by simp; omega
        go_wp2_with fail
        refine (markJobs_c _ _ _ _ _ _ _ _ _ _ (length_dues _) M0 (gx1_5.ext (by repeat' (first | (with_reducible exact Ext.refl _) | (with_reducible assumption) | (with_reducible refine Ext.drewN ?_ _) | (with_reducible refine Ext.drew ?_) | (with_reducible refine Ext.alloc ?_ _) | (with_reducible refine Ext.setCell ?_ ?_ _) | (with_reducible refine Ext.setRow ?_ ?_ _) | (with_reducible exact Nat.le_refl _) | (with_reducible refine Ext.trans ?_ (by assumption)) | omega))) (by omega) (by omega)).mono ?_
        rintro e w13 ⟨rfl, hx13, gx1_5m⟩
        have X13 : Upd w12 w13 (feet [.slice ax1_5 nx1_5 kx1_5]) := (Ext.upd (by repeat' (first | (with_reducible exact Ext.refl _) | (with_reducible assumption) | (with_reducible refine Ext.drewN ?_ _) | (with_reducible refine Ext.drew ?_) | (with_reducible refine Ext.alloc ?_ _) | (with_reducible refine Ext.setCell ?_ ?_ _) | (with_reducible refine Ext.setRow ?_ ?_ _) | (with_reducible exact Nat.le_refl _) | (with_reducible refine Ext.trans ?_ (by assumption)) | omega)) _).trans hx13
        have Z13 := X13.size
        have E13 : Ext w w13 := E12.upd_below X13 (fun k hk => by have := bx1_5 k hk; omega)
        have Ba0 := Ba0.upd X13 (fun hk => by have := bx1_5 _ hk; omega)
        have Ba1 := Ba1.upd X13 (fun hk => by have := bx1_5 _ hk; omega)
        have gw0_5 := OwnI.upd' gw0_5 X13 (fun k hk hk' => by have := bx1_5 k hk'; have := bw0_5 k hk; omega)
        have Bw0 := Bw0.upd X13 (fun hk => by have := bx1_5 _ hk; omega)
        have gx0_5 := OwnI.upd' gx0_5 X13 (fun k hk hk' => by have := bx1_5 k hk'; have := bx0_5 k hk; omega)
        have Bx0 := Bx0.upd X13 (fun hk => by have := bx1_5 _ hk; omega)
        have Bx1 := Bx1.upd X13 (fun hk => by have := bx1_5 _ hk; omega)
        have gg0_5 := OwnI.upd' gg0_5 X13 (fun k hk hk' => by have := bx1_5 k hk'; have := bg0_5 k hk; omega)
        have Bg0 := Bg0.upd X13 (fun hk => by have := bx1_5 _ hk; omega)
        have gx1_5 := gx1_5m; clear gx1_5m
        clear hx13
        clear CBa0 LBa0 CBa1 LBa1 CBw0 LBw0 CBx0 LBx0 CBx1 LBx1 CBg0 LBg0
        have CBa0 := Ba0.cell; have LBa0 := Ba0.lt
        have CBa1 := Ba1.cell; have LBa1 := Ba1.lt
        have CBw0 := Bw0.cell; have LBw0 := Bw0.lt
        have CBx0 := Bx0.cell; have LBx0 := Bx0.lt
        have CBx1 := Bx1.cell; have LBx1 := Bx1.lt
        have CBg0 := Bg0.cell; have LBg0 := Bg0.lt
        obtain ⟨M1, hM1⟩ : ∃ z : Int, z = M0 + ((l1_5.length * 2 : Nat) : Int) := ⟨_, rfl⟩
        rw [← hM1]
        have pM1 : 0 ≤ M1 ∧ M1 ≤ 8000000000 := by omega
        have HM1 := Lib.hid hM1; clear hM1; obtain ⟨pM1, pM1x⟩ := pM1; have dM1 : decide (M1 < 0) = false := by simp; omega
        go_wp2_with fail
        refine (eqView_c _ _ _ _ _ _ _ _ _ ((gg0_5.ints).ext (by repeat' (first | (with_reducible exact Ext.refl _) | (with_reducible assumption) | (with_reducible refine Ext.drewN ?_ _) | (with_reducible refine Ext.drew ?_) | (with_reducible refine Ext.alloc ?_ _) | (with_reducible refine Ext.setCell ?_ ?_ _) | (with_reducible refine Ext.setRow ?_ ?_ _) | (with_reducible exact Nat.le_refl _) | (with_reducible refine Ext.trans ?_ (by assumption)) | omega))) ((gw0_5.ints).ext (by repeat' (first | (with_reducible exact Ext.refl _) | (with_reducible assumption) | (with_reducible refine Ext.drewN ?_ _) | (with_reducible refine Ext.drew ?_) | (with_reducible refine Ext.alloc ?_ _) | (with_reducible refine Ext.setCell ?_ ?_ _) | (with_reducible refine Ext.setRow ?_ ?_ _) | (with_reducible exact Nat.le_refl _) | (with_reducible refine Ext.trans ?_ (by assumption)) | omega)))).mono ?_
        rintro e w14 ⟨rfl, hx14⟩
        have X14 : Ext w13 w14 := by repeat' (first | (with_reducible exact Ext.refl _) | (with_reducible assumption) | (with_reducible refine Ext.drewN ?_ _) | (with_reducible refine Ext.drew ?_) | (with_reducible refine Ext.alloc ?_ _) | (with_reducible refine Ext.setCell ?_ ?_ _) | (with_reducible refine Ext.setRow ?_ ?_ _) | (with_reducible exact Nat.le_refl _) | (with_reducible refine Ext.trans ?_ (by assumption)) | omega)
        have Z14 := X14.size
        have E14 : Ext w w14 := E13.trans X14
        have Ba0 := Ba0.ext X14
        have Ba1 := Ba1.ext X14
        have gw0_5 := gw0_5.ext X14
        have Bw0 := Bw0.ext X14
        have gx0_5 := gx0_5.ext X14
        have Bx0 := Bx0.ext X14
        have gx1_5 := gx1_5.ext X14
        have Bx1 := Bx1.ext X14
        have gg0_5 := gg0_5.ext X14
        have Bg0 := Bg0.ext X14
        clear hx14
        clear CBa0 LBa0 CBa1 LBa1 CBw0 LBw0 CBx0 LBx0 CBx1 LBx1 CBg0 LBg0
        have CBa0 := Ba0.cell; have LBa0 := Ba0.lt
        have CBa1 := Ba1.cell; have LBa1 := Ba1.lt
        have CBw0 := Bw0.cell; have LBw0 := Bw0.lt
        have CBx0 := Bx0.cell; have LBx0 := Bx0.lt
        have CBx1 := Bx1.cell; have LBx1 := Bx1.lt
        have CBg0 := Bg0.cell; have LBg0 := Bg0.lt
        have hsm : ((heardView (⟨⟨c0_0, c0_1, c0_2, c0_3, c0_4, l0_5⟩⟩ : DView) (⟨c1_0, c1_1, c1_2, c1_3, c1_4, l1_5⟩ : DJobs)).Jobs.Open.length * 2 : Nat) ≤ 4611686018427387000 := by have := heardView_len (⟨⟨c0_0, c0_1, c0_2, c0_3, c0_4, l0_5⟩⟩ : DView) ⟨c1_0, c1_1, c1_2, c1_3, c1_4, l1_5⟩; omega
        go_wp2_with fail
        refine (markView_c _ _ _ _ _ _ _ _ _ _ (length_dues _) 1 (gg0_5.ext (by repeat' (first | (with_reducible exact Ext.refl _) | (with_reducible assumption) | (with_reducible refine Ext.drewN ?_ _) | (with_reducible refine Ext.drew ?_) | (with_reducible refine Ext.alloc ?_ _) | (with_reducible refine Ext.setCell ?_ ?_ _) | (with_reducible refine Ext.setRow ?_ ?_ _) | (with_reducible exact Nat.le_refl _) | (with_reducible refine Ext.trans ?_ (by assumption)) | omega))) (by omega) (by omega)).mono ?_
        rintro e w15 ⟨rfl, hx15, gg0_5m⟩
        have X15 : Upd w14 w15 (feet [.slice ag0_5 ng0_5 kg0_5]) := (Ext.upd (by repeat' (first | (with_reducible exact Ext.refl _) | (with_reducible assumption) | (with_reducible refine Ext.drewN ?_ _) | (with_reducible refine Ext.drew ?_) | (with_reducible refine Ext.alloc ?_ _) | (with_reducible refine Ext.setCell ?_ ?_ _) | (with_reducible refine Ext.setRow ?_ ?_ _) | (with_reducible exact Nat.le_refl _) | (with_reducible refine Ext.trans ?_ (by assumption)) | omega)) _).trans hx15
        have Z15 := X15.size
        have E15 : Ext w w15 := E14.upd_below X15 (fun k hk => by have := bg0_5 k hk; omega)
        have Ba0 := Ba0.upd X15 (fun hk => by have := bg0_5 _ hk; omega)
        have Ba1 := Ba1.upd X15 (fun hk => by have := bg0_5 _ hk; omega)
        have gw0_5 := OwnI.upd' gw0_5 X15 (fun k hk hk' => by have := bg0_5 k hk'; have := bw0_5 k hk; omega)
        have Bw0 := Bw0.upd X15 (fun hk => by have := bg0_5 _ hk; omega)
        have gx0_5 := OwnI.upd' gx0_5 X15 (fun k hk hk' => by have := bg0_5 k hk'; have := bx0_5 k hk; omega)
        have Bx0 := Bx0.upd X15 (fun hk => by have := bg0_5 _ hk; omega)
        have gx1_5 := OwnI.upd' gx1_5 X15 (fun k hk hk' => by have := bg0_5 k hk'; have := bx1_5 k hk; omega)
        have Bx1 := Bx1.upd X15 (fun hk => by have := bg0_5 _ hk; omega)
        have Bg0 := Bg0.upd X15 (fun hk => by have := bg0_5 _ hk; omega)
        have gg0_5 := gg0_5m; clear gg0_5m
        clear hx15
        clear CBa0 LBa0 CBa1 LBa1 CBw0 LBw0 CBx0 LBx0 CBx1 LBx1 CBg0 LBg0
        have CBa0 := Ba0.cell; have LBa0 := Ba0.lt
        have CBa1 := Ba1.cell; have LBa1 := Ba1.lt
        have CBw0 := Bw0.cell; have LBw0 := Bw0.lt
        have CBx0 := Bx0.cell; have LBx0 := Bx0.lt
        have CBx1 := Bx1.cell; have LBx1 := Bx1.lt
        have CBg0 := Bg0.cell; have LBg0 := Bg0.lt
        obtain ⟨N, hN⟩ : ∃ z : Int, z = 1 + (((heardView (⟨⟨c0_0, c0_1, c0_2, c0_3, c0_4, l0_5⟩⟩ : DView) (⟨c1_0, c1_1, c1_2, c1_3, c1_4, l1_5⟩ : DJobs)).Jobs.Open.length * 2 : Nat) : Int) := ⟨_, rfl⟩
        rw [← hN]
        have pN : 0 ≤ N := by omega
        have HN := Lib.hid hN; clear hN; have dN : decide (N < 0) = false := by simp; omega
        go_wp2_with fail
        refine (heldView_c _ _ _ _ _ _ _ (heardView (⟨⟨c0_0, c0_1, c0_2, c0_3, c0_4, l0_5⟩⟩ : DView) (⟨c1_0, c1_1, c1_2, c1_3, c1_4, l1_5⟩ : DJobs)).Jobs.Open.length 1 (gg0_5.ints.ext (by repeat' (first | (with_reducible exact Ext.refl _) | (with_reducible assumption) | (with_reducible refine Ext.drewN ?_ _) | (with_reducible refine Ext.drew ?_) | (with_reducible refine Ext.alloc ?_ _) | (with_reducible refine Ext.setCell ?_ ?_ _) | (with_reducible refine Ext.setRow ?_ ?_ _) | (with_reducible exact Nat.le_refl _) | (with_reducible refine Ext.trans ?_ (by assumption)) | omega))) (by omega) (by omega)).mono ?_
        rintro e w16 ⟨rfl, hx16⟩
        have X16 : Ext w15 w16 := by repeat' (first | (with_reducible exact Ext.refl _) | (with_reducible assumption) | (with_reducible refine Ext.drewN ?_ _) | (with_reducible refine Ext.drew ?_) | (with_reducible refine Ext.alloc ?_ _) | (with_reducible refine Ext.setCell ?_ ?_ _) | (with_reducible refine Ext.setRow ?_ ?_ _) | (with_reducible exact Nat.le_refl _) | (with_reducible refine Ext.trans ?_ (by assumption)) | omega)
        have Z16 := X16.size
        have E16 : Ext w w16 := E15.trans X16
        have Ba0 := Ba0.ext X16
        have Ba1 := Ba1.ext X16
        have gw0_5 := gw0_5.ext X16
        have Bw0 := Bw0.ext X16
        have gx0_5 := gx0_5.ext X16
        have Bx0 := Bx0.ext X16
        have gx1_5 := gx1_5.ext X16
        have Bx1 := Bx1.ext X16
        have gg0_5 := gg0_5.ext X16
        have Bg0 := Bg0.ext X16
        clear hx16
        clear CBa0 LBa0 CBa1 LBa1 CBw0 LBw0 CBx0 LBx0 CBx1 LBx1 CBg0 LBg0
        have CBa0 := Ba0.cell; have LBa0 := Ba0.lt
        have CBa1 := Ba1.cell; have LBa1 := Ba1.lt
        have CBw0 := Bw0.cell; have LBw0 := Bw0.lt
        have CBx0 := Bx0.cell; have LBx0 := Bx0.lt
        have CBx1 := Bx1.cell; have LBx1 := Bx1.lt
        have CBg0 := Bg0.cell; have LBg0 := Bg0.lt
        rw [← HN.out]
        as_aux_lemma =>
          go_wp2_with fail
          have b0_0 : ∀ w', Ext w16 w' → w'.cell? ⟨_, 0, none⟩ = some (.int .i64 c0_0) := fun w' hw => (Ba0.ext hw).cell 0
          have b0_1 : ∀ w', Ext w16 w' → w'.cell? ⟨_, 1, none⟩ = some (.int .i64 c0_1) := fun w' hw => (Ba0.ext hw).cell 1
          have b0_2 : ∀ w', Ext w16 w' → w'.cell? ⟨_, 2, none⟩ = some (.int .i64 c0_2) := fun w' hw => (Ba0.ext hw).cell 2
          have b0_3 : ∀ w', Ext w16 w' → w'.cell? ⟨_, 3, none⟩ = some (.int .i64 c0_3) := fun w' hw => (Ba0.ext hw).cell 3
          have b0_4 : ∀ w', Ext w16 w' → w'.cell? ⟨_, 4, none⟩ = some (.int .i64 c0_4) := fun w' hw => (Ba0.ext hw).cell 4
          have b0_5 : ∀ w', Ext w16 w' → w'.cell? ⟨_, 5, none⟩ = some (.slice a0_5 n0_5 k0_5) := fun w' hw => (Ba0.ext hw).cell 5
          have b1_0 : ∀ w', Ext w16 w' → w'.cell? ⟨_, 0, none⟩ = some (.int .i64 c1_0) := fun w' hw => (Ba1.ext hw).cell 0
          have b1_1 : ∀ w', Ext w16 w' → w'.cell? ⟨_, 1, none⟩ = some (.int .i64 c1_1) := fun w' hw => (Ba1.ext hw).cell 1
          have b1_2 : ∀ w', Ext w16 w' → w'.cell? ⟨_, 2, none⟩ = some (.int .i64 c1_2) := fun w' hw => (Ba1.ext hw).cell 2
          have b1_3 : ∀ w', Ext w16 w' → w'.cell? ⟨_, 3, none⟩ = some (.int .i64 c1_3) := fun w' hw => (Ba1.ext hw).cell 3
          have b1_4 : ∀ w', Ext w16 w' → w'.cell? ⟨_, 4, none⟩ = some (.int .i64 c1_4) := fun w' hw => (Ba1.ext hw).cell 4
          have b1_5 : ∀ w', Ext w16 w' → w'.cell? ⟨_, 5, none⟩ = some (.slice a1_5 n1_5 k1_5) := fun w' hw => (Ba1.ext hw).cell 5
          clear CBa0 LBa0 CBa1 LBa1 CBw0 LBw0 CBx0 LBx0 CBx1 LBx1 CBg0 LBg0
          go_cut [13] (fun sx wx => ∃ gg : Nat, sx = .pointer (some ⟨gg, 0, none⟩) ∧ Ext w16 wx ∧ w16.heap.size ≤ gg ∧ ∃ th0_5 : Value, Blk wx gg 33 #[.int .i64 (heardView (⟨⟨c0_0, c0_1, c0_2, c0_3, c0_4, l0_5⟩⟩ : DView) (⟨c1_0, c1_1, c1_2, c1_3, c1_4, l1_5⟩ : DJobs)).Jobs.Index, .int .i64 (heardView (⟨⟨c0_0, c0_1, c0_2, c0_3, c0_4, l0_5⟩⟩ : DView) (⟨c1_0, c1_1, c1_2, c1_3, c1_4, l1_5⟩ : DJobs)).Jobs.Time, .int .i64 (heardView (⟨⟨c0_0, c0_1, c0_2, c0_3, c0_4, l0_5⟩⟩ : DView) (⟨c1_0, c1_1, c1_2, c1_3, c1_4, l1_5⟩ : DJobs)).Jobs.Holder, .int .i64 (heardView (⟨⟨c0_0, c0_1, c0_2, c0_3, c0_4, l0_5⟩⟩ : DView) (⟨c1_0, c1_1, c1_2, c1_3, c1_4, l1_5⟩ : DJobs)).Jobs.Epoch, .int .i64 (heardView (⟨⟨c0_0, c0_1, c0_2, c0_3, c0_4, l0_5⟩⟩ : DView) (⟨c1_0, c1_1, c1_2, c1_3, c1_4, l1_5⟩ : DJobs)).Jobs.Until, th0_5] ∧ OwnI w16.heap.size 65 2 wx th0_5 (dues (heardView (⟨⟨c0_0, c0_1, c0_2, c0_3, c0_4, l0_5⟩⟩ : DView) (⟨c1_0, c1_1, c1_2, c1_3, c1_4, l1_5⟩ : DJobs)).Jobs.Open) ∧ (∀ k, k ∈ feet [th0_5] → k ≠ gg ∧ k < wx.heap.size))
          case first =>
            go_region_held3 (fun w' => Ext w16 w') (repeat' (first | (with_reducible exact Ext.refl _) | (with_reducible assumption) | (with_reducible refine Ext.drewN ?_ _) | (with_reducible refine Ext.drew ?_) | (with_reducible refine Ext.alloc ?_ _) | (with_reducible refine Ext.setCell ?_ ?_ _) | (with_reducible refine Ext.setRow ?_ ?_ _) | (with_reducible exact Nat.le_refl _) | (with_reducible refine Ext.trans ?_ (by assumption)) | omega)) (first | (go_at_call 11; refine (toView_c _ _ _ _ _ _ _ _ _ (length_dues _) (h0_5.ext (E16.trans (by repeat' (first | (with_reducible exact Ext.refl _) | (with_reducible refine Ext.drewN ?_ _) | (with_reducible refine Ext.drew ?_) | (with_reducible refine Ext.alloc ?_ _) | (with_reducible refine Ext.setCell ?_ ?_ _) | (with_reducible refine Ext.trans ?_ hyf) | (with_reducible refine Ext.trans ?_ hy1) | (with_reducible refine Ext.trans ?_ hy0) | (with_reducible assumption) | omega)))) q0_5).mono ?_; rintro e wv0 ⟨_, rfl, hy0, tv0_5, rfl, gv0_5⟩; obtain ⟨av0_5, nv0_5, kv0_5, rfl⟩ := gv0_5.shape; have hzhy0 := hy0.size; obtain ⟨hchy0, hdhy0⟩ := hy0.cells; (try simp only [World.size_alloc, size_drew] at hzhy0 hchy0 hdhy0); (try have hqhy0w16 : w16.heap.size < wv0.heap.size := (by omega)); (try have hqhy0wv1 : wv1.heap.size < wv0.heap.size := (by omega)); (try have hqhy0wf : wf.heap.size < wv0.heap.size := (by omega))) | (go_at_call 22; refine (toJobs_c _ _ _ _ _ _ _ _ _ (length_dues _) (h1_5.ext (E16.trans (by repeat' (first | (with_reducible exact Ext.refl _) | (with_reducible refine Ext.drewN ?_ _) | (with_reducible refine Ext.drew ?_) | (with_reducible refine Ext.alloc ?_ _) | (with_reducible refine Ext.setCell ?_ ?_ _) | (with_reducible refine Ext.trans ?_ hyf) | (with_reducible refine Ext.trans ?_ hy1) | (with_reducible refine Ext.trans ?_ hy0) | (with_reducible assumption) | omega)))) q1_5).mono ?_; rintro e wv1 ⟨_, rfl, hy1, tv1_5, rfl, gv1_5⟩; obtain ⟨av1_5, nv1_5, kv1_5, rfl⟩ := gv1_5.shape; have hzhy1 := hy1.size; obtain ⟨hchy1, hdhy1⟩ := hy1.cells; (try simp only [World.size_alloc, size_drew] at hzhy1 hchy1 hdhy1); (try have hqhy1w16 : w16.heap.size < wv1.heap.size := (by omega)); (try have hqhy1wv0 : wv0.heap.size < wv1.heap.size := (by omega)); (try have hqhy1wf : wf.heap.size < wv1.heap.size := (by omega))) | (go_at_call 23; refine (heardJobs_l _ _ _ _ _ _ _ _ _ _ _ _ _ _ _ ((gv0_5.ints).ext (by repeat' (first | (with_reducible exact Ext.refl _) | (with_reducible refine Ext.drewN ?_ _) | (with_reducible refine Ext.drew ?_) | (with_reducible refine Ext.alloc ?_ _) | (with_reducible refine Ext.setCell ?_ ?_ _) | (with_reducible refine Ext.trans ?_ hyf) | (with_reducible refine Ext.trans ?_ hy1) | (with_reducible refine Ext.trans ?_ hy0) | (with_reducible assumption) | omega))) ((gv1_5.ints).ext (by repeat' (first | (with_reducible exact Ext.refl _) | (with_reducible refine Ext.drewN ?_ _) | (with_reducible refine Ext.drew ?_) | (with_reducible refine Ext.alloc ?_ _) | (with_reducible refine Ext.setCell ?_ ?_ _) | (with_reducible refine Ext.trans ?_ hyf) | (with_reducible refine Ext.trans ?_ hy1) | (with_reducible refine Ext.trans ?_ hy0) | (with_reducible assumption) | omega)))).mono ?_; rintro e wf ⟨_, rfl, hyf, ⟨th0_5, rfl, gf_5⟩⟩; obtain ⟨af_5, nf_5, kf_5, rfl⟩ := gf_5.shape; have bf_5 := gf_5.foot; (try simp only [World.size_alloc, size_drew] at bf_5); have hzhyf := hyf.size; obtain ⟨hchyf, hdhyf⟩ := hyf.cells; (try simp only [World.size_alloc, size_drew] at hzhyf hchyf hdhyf); (try have hqhyfw16 : w16.heap.size < wf.heap.size := (by omega)); (try have hqhyfwv0 : wv0.heap.size < wf.heap.size := (by omega)); (try have hqhyfwv1 : wv1.heap.size < wf.heap.size := (by omega))))
            all_goals clear b0_0 b0_1 b0_2 b0_3 b0_4 b0_5 b1_0 b1_1 b1_2 b1_3 b1_4 b1_5 hchyf hdhyf hchy1 hdhy1 hchy0 hdhy0
            all_goals go_wp2_with fail
            all_goals go_meet
            all_goals case rel =>
              (try simp only [World.size_alloc, size_drew] at *)
              refine ⟨_, rfl, by repeat' (first | (with_reducible exact Ext.refl _) | (with_reducible assumption) | (with_reducible refine Ext.drewN ?_ _) | (with_reducible refine Ext.drew ?_) | (with_reducible refine Ext.alloc ?_ _) | (with_reducible refine Ext.setCell ?_ ?_ _) | (with_reducible refine Ext.setRow ?_ ?_ _) | (with_reducible exact Nat.le_refl _) | (with_reducible refine Ext.trans ?_ (by assumption)) | omega), by omega, _, Blk.cast (by repeat' (first | (with_reducible assumption) | (with_reducible exact Blk.new _ _ _) | (with_reducible exact Blk.new2 _ _ _ _) | (with_reducible exact Blk.new3 _ _ _ _ _) | (with_reducible (apply Blk.ext; rotate_left; exact hyf)) | (with_reducible (apply Blk.ext; rotate_left; exact hy1)) | (with_reducible (apply Blk.ext; rotate_left; exact hy0)) | (with_reducible apply Blk.drew) | (with_reducible apply Blk.alloc) | (with_reducible apply Blk.set_) | (with_reducible apply Blk.row) | (with_reducible apply Blk.far) | (with_reducible apply Blk.rowFar) | omega | (simp; omega))) (by simp), OwnI.mono (OwnI.keep gf_5 (by repeat' (first | (with_reducible exact Chg.refl _ _) | (with_reducible refine Chg.drewN ?_ _) | (with_reducible refine Chg.drew ?_) | (with_reducible refine Chg.alloc ?_ _) | (with_reducible refine Chg.setLow ?_ (by omega) _) | (with_reducible refine Chg.setNew ?_ (by omega) _) | (with_reducible refine Chg.setRow ?_ (by omega) _) | (with_reducible refine Chg.ext ?_ (by assumption)) | omega))) (by (try simp only [World.size_alloc, size_drew]); omega), fun k hk => (by have := bf_5 k hk; (repeat (first | rw [World.size_setCell] | rw [World.size_alloc])); omega)⟩
          case rest =>
            revert wc; intro w17 hcut
            obtain ⟨ghb, rfl, X17, hge17, th0_5, Bh0, gh0_5, bh0_5⟩ := hcut
            clear b0_0 b0_1 b0_2 b0_3 b0_4 b0_5 b1_0 b1_1 b1_2 b1_3 b1_4 b1_5
            have MBh0 := Bh0.lt
            have Z17 := X17.size; have E17 : Ext w w17 := E16.trans X17
            have Ba0 := Ba0.ext X17
            have Ba1 := Ba1.ext X17
            have gw0_5 := gw0_5.ext X17
            have Bw0 := Bw0.ext X17
            have gx0_5 := gx0_5.ext X17
            have Bx0 := Bx0.ext X17
            have gx1_5 := gx1_5.ext X17
            have Bx1 := Bx1.ext X17
            have gg0_5 := gg0_5.ext X17
            have Bg0 := Bg0.ext X17
            obtain ⟨ah0_5, nh0_5, kh0_5, rfl⟩ := gh0_5.shape
            have bbh0_5 := gh0_5.foot
            have CBa0 := Ba0.cell; have LBa0 := Ba0.lt
            have CBa1 := Ba1.cell; have LBa1 := Ba1.lt
            have CBw0 := Bw0.cell; have LBw0 := Bw0.lt
            have CBx0 := Bx0.cell; have LBx0 := Bx0.lt
            have CBx1 := Bx1.cell; have LBx1 := Bx1.lt
            have CBg0 := Bg0.cell; have LBg0 := Bg0.lt
            have CBh0 := Bh0.cell; have LBh0 := Bh0.lt
            go_wp2_with fail
            refine (eqView_c _ _ _ _ _ _ _ _ _ ((gh0_5.ints).ext (by repeat' (first | (with_reducible exact Ext.refl _) | (with_reducible assumption) | (with_reducible refine Ext.drewN ?_ _) | (with_reducible refine Ext.drew ?_) | (with_reducible refine Ext.alloc ?_ _) | (with_reducible refine Ext.setCell ?_ ?_ _) | (with_reducible refine Ext.setRow ?_ ?_ _) | (with_reducible exact Nat.le_refl _) | (with_reducible refine Ext.trans ?_ (by assumption)) | omega))) ((gw0_5.ints).ext (by repeat' (first | (with_reducible exact Ext.refl _) | (with_reducible assumption) | (with_reducible refine Ext.drewN ?_ _) | (with_reducible refine Ext.drew ?_) | (with_reducible refine Ext.alloc ?_ _) | (with_reducible refine Ext.setCell ?_ ?_ _) | (with_reducible refine Ext.setRow ?_ ?_ _) | (with_reducible exact Nat.le_refl _) | (with_reducible refine Ext.trans ?_ (by assumption)) | omega)))).mono ?_
            rintro e w18 ⟨rfl, hx18⟩
            have X18 : Ext w17 w18 := by repeat' (first | (with_reducible exact Ext.refl _) | (with_reducible assumption) | (with_reducible refine Ext.drewN ?_ _) | (with_reducible refine Ext.drew ?_) | (with_reducible refine Ext.alloc ?_ _) | (with_reducible refine Ext.setCell ?_ ?_ _) | (with_reducible refine Ext.setRow ?_ ?_ _) | (with_reducible exact Nat.le_refl _) | (with_reducible refine Ext.trans ?_ (by assumption)) | omega)
            have Z18 := X18.size
            have E18 : Ext w w18 := E17.trans X18
            have Ba0 := Ba0.ext X18
            have Ba1 := Ba1.ext X18
            have gw0_5 := gw0_5.ext X18
            have Bw0 := Bw0.ext X18
            have gx0_5 := gx0_5.ext X18
            have Bx0 := Bx0.ext X18
            have gx1_5 := gx1_5.ext X18
            have Bx1 := Bx1.ext X18
            have gg0_5 := gg0_5.ext X18
            have Bg0 := Bg0.ext X18
            have gh0_5 := gh0_5.ext X18
            have Bh0 := Bh0.ext X18
            clear hx18
            clear CBa0 LBa0 CBa1 LBa1 CBw0 LBw0 CBx0 LBx0 CBx1 LBx1 CBg0 LBg0 CBh0 LBh0
            have CBa0 := Ba0.cell; have LBa0 := Ba0.lt
            have CBa1 := Ba1.cell; have LBa1 := Ba1.lt
            have CBw0 := Bw0.cell; have LBw0 := Bw0.lt
            have CBx0 := Bx0.cell; have LBx0 := Bx0.lt
            have CBx1 := Bx1.cell; have LBx1 := Bx1.lt
            have CBg0 := Bg0.cell; have LBg0 := Bg0.lt
            have CBh0 := Bh0.cell; have LBh0 := Bh0.lt
            go_wp2_with fail
            refine (heldView_c _ _ _ _ _ _ _ (heardView (⟨⟨c0_0, c0_1, c0_2, c0_3, c0_4, l0_5⟩⟩ : DView) (⟨c1_0, c1_1, c1_2, c1_3, c1_4, l1_5⟩ : DJobs)).Jobs.Open.length 1 (gg0_5.ints.ext (by repeat' (first | (with_reducible exact Ext.refl _) | (with_reducible assumption) | (with_reducible refine Ext.drewN ?_ _) | (with_reducible refine Ext.drew ?_) | (with_reducible refine Ext.alloc ?_ _) | (with_reducible refine Ext.setCell ?_ ?_ _) | (with_reducible refine Ext.setRow ?_ ?_ _) | (with_reducible exact Nat.le_refl _) | (with_reducible refine Ext.trans ?_ (by assumption)) | omega))) (by omega) (by omega)).mono ?_
            rintro e w19 ⟨rfl, hx19⟩
            have X19 : Ext w18 w19 := by repeat' (first | (with_reducible exact Ext.refl _) | (with_reducible assumption) | (with_reducible refine Ext.drewN ?_ _) | (with_reducible refine Ext.drew ?_) | (with_reducible refine Ext.alloc ?_ _) | (with_reducible refine Ext.setCell ?_ ?_ _) | (with_reducible refine Ext.setRow ?_ ?_ _) | (with_reducible exact Nat.le_refl _) | (with_reducible refine Ext.trans ?_ (by assumption)) | omega)
            have Z19 := X19.size
            have E19 : Ext w w19 := E18.trans X19
            have Ba0 := Ba0.ext X19
            have Ba1 := Ba1.ext X19
            have gw0_5 := gw0_5.ext X19
            have Bw0 := Bw0.ext X19
            have gx0_5 := gx0_5.ext X19
            have Bx0 := Bx0.ext X19
            have gx1_5 := gx1_5.ext X19
            have Bx1 := Bx1.ext X19
            have gg0_5 := gg0_5.ext X19
            have Bg0 := Bg0.ext X19
            have gh0_5 := gh0_5.ext X19
            have Bh0 := Bh0.ext X19
            clear hx19
            clear CBa0 LBa0 CBa1 LBa1 CBw0 LBw0 CBx0 LBx0 CBx1 LBx1 CBg0 LBg0 CBh0 LBh0
            have CBa0 := Ba0.cell; have LBa0 := Ba0.lt
            have CBa1 := Ba1.cell; have LBa1 := Ba1.lt
            have CBw0 := Bw0.cell; have LBw0 := Bw0.lt
            have CBx0 := Bx0.cell; have LBx0 := Bx0.lt
            have CBx1 := Bx1.cell; have LBx1 := Bx1.lt
            have CBg0 := Bg0.cell; have LBg0 := Bg0.lt
            have CBh0 := Bh0.cell; have LBh0 := Bh0.lt
            rw [← HN.out]
            go_wp2
            go_ret
            exact ⟨rfl, E19⟩
end Go.Proofs.Ytonboladkbdpbaa
