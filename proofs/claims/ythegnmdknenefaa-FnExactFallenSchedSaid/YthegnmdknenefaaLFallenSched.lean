/- The statement's walk: FnExactFallenSched. -/
import Derived.Test.YthegnmdknenefaaV14
import Derived.Test.YthegnmdknenefaaHelpB
namespace Go.Proofs.Ythegnmdknenefaa
open Go.RowKit Go.G8

set_option maxHeartbeats 4000000 in
set_option maxRecDepth 100000 in
theorem law_FallenSched (w : World) (c0_0 : Int) (c0_1 : Int) (c0_2 : Int) (c0_3 : Int) (c0_4 : Int) (c0_5 : Int) (c0_6 : Int) (s0_7 : Value) (l0_7 : List DDue) (c0_8 : Bool) (c0_9 : Int) (c0_10 : Int) (c0_11 : Int) (c0_12 : Int) (c0_13 : Int) (c0_14 : Int) (h0_7 : Ints 2 w s0_7 (dues l0_7)) : Calls Try.prog 4 #[.agg #[.int .i64 c0_0, .int .i64 c0_1, .int .i64 c0_2, .int .i64 c0_3, .int .i64 c0_4, .int .i64 c0_5, .int .i64 c0_6, s0_7, .bool c0_8, .int .i64 c0_9, .int .i64 c0_10, .int .i64 c0_11, .int .i64 c0_12, .int .i64 c0_13, .int .i64 c0_14]] w (RetV w (.bool true)) := by
  obtain ⟨a0_7, n0_7, k0_7, rfl⟩ := h0_7.shape
  go_enter Try.func4, Try.ntmps4
  go_wp2_with fail
  refine (szSched_c _ _ _ _ _ _ _ _ _ _ _ (length_dues _) _ _ _ _ _ _ _ _ (h0_7.ext (by repeat' (first | (with_reducible exact Ext.refl _) | (with_reducible assumption) | (with_reducible refine Ext.drewN ?_ _) | (with_reducible refine Ext.drew ?_) | (with_reducible refine Ext.alloc ?_ _) | (with_reducible refine Ext.setCell ?_ ?_ _) | (with_reducible refine Ext.setRow ?_ ?_ _) | (with_reducible exact Nat.le_refl _) | (with_reducible refine Ext.trans ?_ (by assumption)) | omega))) (by omega) (by omega)).mono ?_
  rintro e w1 ⟨v1, rfl, hx1, hv1⟩
  have X1 : Ext w w1 := by repeat' (first | (with_reducible exact Ext.refl _) | (with_reducible assumption) | (with_reducible refine Ext.drewN ?_ _) | (with_reducible refine Ext.drew ?_) | (with_reducible refine Ext.alloc ?_ _) | (with_reducible refine Ext.setCell ?_ ?_ _) | (with_reducible refine Ext.setRow ?_ ?_ _) | (with_reducible exact Nat.le_refl _) | (with_reducible refine Ext.trans ?_ (by assumption)) | omega)
  have Ba0 : Blk w1 w.heap.size 30 #[.int .i64 c0_0, .int .i64 c0_1, .int .i64 c0_2, .int .i64 c0_3, .int .i64 c0_4, .int .i64 c0_5, .int .i64 c0_6, .slice a0_7 n0_7 k0_7, .bool c0_8, .int .i64 c0_9, .int .i64 c0_10, .int .i64 c0_11, .int .i64 c0_12, .int .i64 c0_13, .int .i64 c0_14] := (Blk.new w 30 #[.int .i64 c0_0, .int .i64 c0_1, .int .i64 c0_2, .int .i64 c0_3, .int .i64 c0_4, .int .i64 c0_5, .int .i64 c0_6, .slice a0_7 n0_7 k0_7, .bool c0_8, .int .i64 c0_9, .int .i64 c0_10, .int .i64 c0_11, .int .i64 c0_12, .int .i64 c0_13, .int .i64 c0_14]).ext (by repeat' (first | (with_reducible exact Ext.refl _) | (with_reducible assumption) | (with_reducible refine Ext.drewN ?_ _) | (with_reducible refine Ext.drew ?_) | (with_reducible refine Ext.alloc ?_ _) | (with_reducible refine Ext.setCell ?_ ?_ _) | (with_reducible refine Ext.setRow ?_ ?_ _) | (with_reducible exact Nat.le_refl _) | (with_reducible refine Ext.trans ?_ (by assumption)) | omega))
  have MBa0 := Ba0.lt
  have Z1 := X1.size
  have E1 : Ext w w1 := X1
  clear hx1
  have CBa0 := Ba0.cell; have LBa0 := Ba0.lt
  rcases hv1 with ⟨rfl, q1⟩ | ⟨rfl, q1⟩
  · go_wp2; go_ret; exact ⟨rfl, by repeat' (first | (with_reducible exact Ext.refl _) | (with_reducible assumption) | (with_reducible refine Ext.drewN ?_ _) | (with_reducible refine Ext.drew ?_) | (with_reducible refine Ext.alloc ?_ _) | (with_reducible refine Ext.setCell ?_ ?_ _) | (with_reducible refine Ext.setRow ?_ ?_ _) | (with_reducible exact Nat.le_refl _) | (with_reducible refine Ext.trans ?_ (by assumption)) | omega)⟩
  have q0_7 : l0_7.length ≤ 1048576 := by omega
  go_wp2_with fail
  refine (toSched_c _ _ _ _ _ _ _ _ _ _ _ (length_dues _) _ _ _ _ _ _ _ (h0_7.ext (E1.trans (by repeat' (first | (with_reducible exact Ext.refl _) | (with_reducible assumption) | (with_reducible refine Ext.drewN ?_ _) | (with_reducible refine Ext.drew ?_) | (with_reducible refine Ext.alloc ?_ _) | (with_reducible refine Ext.setCell ?_ ?_ _) | (with_reducible refine Ext.setRow ?_ ?_ _) | (with_reducible exact Nat.le_refl _) | (with_reducible refine Ext.trans ?_ (by assumption)) | omega)))) q0_7).mono ?_
  rintro e w2 ⟨_, rfl, hx2, tu0_7, rfl, gu0_7⟩
  have X2 : Ext w1 w2 := by repeat' (first | (with_reducible exact Ext.refl _) | (with_reducible assumption) | (with_reducible refine Ext.drewN ?_ _) | (with_reducible refine Ext.drew ?_) | (with_reducible refine Ext.alloc ?_ _) | (with_reducible refine Ext.setCell ?_ ?_ _) | (with_reducible refine Ext.setRow ?_ ?_ _) | (with_reducible exact Nat.le_refl _) | (with_reducible refine Ext.trans ?_ (by assumption)) | omega)
  have Z2 := X2.size
  have E2 : Ext w w2 := E1.trans X2
  have Ba0 := Ba0.ext X2
  clear hx2
  clear CBa0 LBa0
  have CBa0 := Ba0.cell; have LBa0 := Ba0.lt
  obtain ⟨au0_7, nu0_7, ku0_7, rfl⟩ := gu0_7.shape
  have bu0_7 := gu0_7.foot; (try simp only [World.size_alloc] at bu0_7)
  go_wp2_with fail
  refine (sFallenSched_c _ _ _ _ _ _ _ _ _ _ _ _ _ _ _ _ _ ((gu0_7.ints).ext (by repeat' (first | (with_reducible exact Ext.refl _) | (with_reducible assumption) | (with_reducible refine Ext.drewN ?_ _) | (with_reducible refine Ext.drew ?_) | (with_reducible refine Ext.alloc ?_ _) | (with_reducible refine Ext.setCell ?_ ?_ _) | (with_reducible refine Ext.setRow ?_ ?_ _) | (with_reducible exact Nat.le_refl _) | (with_reducible refine Ext.trans ?_ (by assumption)) | omega)))).mono ?_
  rintro e w3 ⟨_, rfl, hx3, ⟨tw0_7, rfl, gw0_7⟩⟩
  have X3 : Ext w2 w3 := by repeat' (first | (with_reducible exact Ext.refl _) | (with_reducible assumption) | (with_reducible refine Ext.drewN ?_ _) | (with_reducible refine Ext.drew ?_) | (with_reducible refine Ext.alloc ?_ _) | (with_reducible refine Ext.setCell ?_ ?_ _) | (with_reducible refine Ext.setRow ?_ ?_ _) | (with_reducible exact Nat.le_refl _) | (with_reducible refine Ext.trans ?_ (by assumption)) | omega)
  have Z3 := X3.size
  have E3 : Ext w w3 := E2.trans X3
  have Ba0 := Ba0.ext X3
  have gu0_7 := gu0_7.ext X3
  clear hx3
  clear CBa0 LBa0
  have CBa0 := Ba0.cell; have LBa0 := Ba0.lt
  obtain ⟨aw0_7, nw0_7, kw0_7, rfl⟩ := gw0_7.shape
  have bw0_7 := gw0_7.foot; (try simp only [World.size_alloc] at bw0_7)
  go_wp2_with fail
  refine (toSched_c _ _ _ _ _ _ _ _ _ _ _ (length_dues _) _ _ _ _ _ _ _ (h0_7.ext (E3.trans (by repeat' (first | (with_reducible exact Ext.refl _) | (with_reducible assumption) | (with_reducible refine Ext.drewN ?_ _) | (with_reducible refine Ext.drew ?_) | (with_reducible refine Ext.alloc ?_ _) | (with_reducible refine Ext.setCell ?_ ?_ _) | (with_reducible refine Ext.setRow ?_ ?_ _) | (with_reducible exact Nat.le_refl _) | (with_reducible refine Ext.trans ?_ (by assumption)) | omega)))) q0_7).mono ?_
  rintro e w4 ⟨_, rfl, hx4, tx0_7, rfl, gx0_7⟩
  have X4 : Ext w3 w4 := by repeat' (first | (with_reducible exact Ext.refl _) | (with_reducible assumption) | (with_reducible refine Ext.drewN ?_ _) | (with_reducible refine Ext.drew ?_) | (with_reducible refine Ext.alloc ?_ _) | (with_reducible refine Ext.setCell ?_ ?_ _) | (with_reducible refine Ext.setRow ?_ ?_ _) | (with_reducible exact Nat.le_refl _) | (with_reducible refine Ext.trans ?_ (by assumption)) | omega)
  have Bw0 : Blk w4 w3.heap.size 43 #[.int .i64 (fallenSched (⟨c0_0, c0_1, ⟨⟨c0_2, c0_3, c0_4, c0_5, c0_6, l0_7⟩⟩, c0_8, ⟨c0_9, c0_10, c0_11, c0_12, c0_13⟩, c0_14⟩ : DSched)).Id, .int .i64 (fallenSched (⟨c0_0, c0_1, ⟨⟨c0_2, c0_3, c0_4, c0_5, c0_6, l0_7⟩⟩, c0_8, ⟨c0_9, c0_10, c0_11, c0_12, c0_13⟩, c0_14⟩ : DSched)).Seq, .int .i64 (fallenSched (⟨c0_0, c0_1, ⟨⟨c0_2, c0_3, c0_4, c0_5, c0_6, l0_7⟩⟩, c0_8, ⟨c0_9, c0_10, c0_11, c0_12, c0_13⟩, c0_14⟩ : DSched)).View.Jobs.Index, .int .i64 (fallenSched (⟨c0_0, c0_1, ⟨⟨c0_2, c0_3, c0_4, c0_5, c0_6, l0_7⟩⟩, c0_8, ⟨c0_9, c0_10, c0_11, c0_12, c0_13⟩, c0_14⟩ : DSched)).View.Jobs.Time, .int .i64 (fallenSched (⟨c0_0, c0_1, ⟨⟨c0_2, c0_3, c0_4, c0_5, c0_6, l0_7⟩⟩, c0_8, ⟨c0_9, c0_10, c0_11, c0_12, c0_13⟩, c0_14⟩ : DSched)).View.Jobs.Holder, .int .i64 (fallenSched (⟨c0_0, c0_1, ⟨⟨c0_2, c0_3, c0_4, c0_5, c0_6, l0_7⟩⟩, c0_8, ⟨c0_9, c0_10, c0_11, c0_12, c0_13⟩, c0_14⟩ : DSched)).View.Jobs.Epoch, .int .i64 (fallenSched (⟨c0_0, c0_1, ⟨⟨c0_2, c0_3, c0_4, c0_5, c0_6, l0_7⟩⟩, c0_8, ⟨c0_9, c0_10, c0_11, c0_12, c0_13⟩, c0_14⟩ : DSched)).View.Jobs.Until, .slice aw0_7 nw0_7 kw0_7, .bool (fallenSched (⟨c0_0, c0_1, ⟨⟨c0_2, c0_3, c0_4, c0_5, c0_6, l0_7⟩⟩, c0_8, ⟨c0_9, c0_10, c0_11, c0_12, c0_13⟩, c0_14⟩ : DSched)).Busy, .int .i64 (fallenSched (⟨c0_0, c0_1, ⟨⟨c0_2, c0_3, c0_4, c0_5, c0_6, l0_7⟩⟩, c0_8, ⟨c0_9, c0_10, c0_11, c0_12, c0_13⟩, c0_14⟩ : DSched)).Op.Kind, .int .i64 (fallenSched (⟨c0_0, c0_1, ⟨⟨c0_2, c0_3, c0_4, c0_5, c0_6, l0_7⟩⟩, c0_8, ⟨c0_9, c0_10, c0_11, c0_12, c0_13⟩, c0_14⟩ : DSched)).Op.A, .int .i64 (fallenSched (⟨c0_0, c0_1, ⟨⟨c0_2, c0_3, c0_4, c0_5, c0_6, l0_7⟩⟩, c0_8, ⟨c0_9, c0_10, c0_11, c0_12, c0_13⟩, c0_14⟩ : DSched)).Op.B, .int .i64 (fallenSched (⟨c0_0, c0_1, ⟨⟨c0_2, c0_3, c0_4, c0_5, c0_6, l0_7⟩⟩, c0_8, ⟨c0_9, c0_10, c0_11, c0_12, c0_13⟩, c0_14⟩ : DSched)).Op.C, .int .i64 (fallenSched (⟨c0_0, c0_1, ⟨⟨c0_2, c0_3, c0_4, c0_5, c0_6, l0_7⟩⟩, c0_8, ⟨c0_9, c0_10, c0_11, c0_12, c0_13⟩, c0_14⟩ : DSched)).Op.D, .int .i64 (fallenSched (⟨c0_0, c0_1, ⟨⟨c0_2, c0_3, c0_4, c0_5, c0_6, l0_7⟩⟩, c0_8, ⟨c0_9, c0_10, c0_11, c0_12, c0_13⟩, c0_14⟩ : DSched)).Index] := (Blk.new w3 43 #[.int .i64 (fallenSched (⟨c0_0, c0_1, ⟨⟨c0_2, c0_3, c0_4, c0_5, c0_6, l0_7⟩⟩, c0_8, ⟨c0_9, c0_10, c0_11, c0_12, c0_13⟩, c0_14⟩ : DSched)).Id, .int .i64 (fallenSched (⟨c0_0, c0_1, ⟨⟨c0_2, c0_3, c0_4, c0_5, c0_6, l0_7⟩⟩, c0_8, ⟨c0_9, c0_10, c0_11, c0_12, c0_13⟩, c0_14⟩ : DSched)).Seq, .int .i64 (fallenSched (⟨c0_0, c0_1, ⟨⟨c0_2, c0_3, c0_4, c0_5, c0_6, l0_7⟩⟩, c0_8, ⟨c0_9, c0_10, c0_11, c0_12, c0_13⟩, c0_14⟩ : DSched)).View.Jobs.Index, .int .i64 (fallenSched (⟨c0_0, c0_1, ⟨⟨c0_2, c0_3, c0_4, c0_5, c0_6, l0_7⟩⟩, c0_8, ⟨c0_9, c0_10, c0_11, c0_12, c0_13⟩, c0_14⟩ : DSched)).View.Jobs.Time, .int .i64 (fallenSched (⟨c0_0, c0_1, ⟨⟨c0_2, c0_3, c0_4, c0_5, c0_6, l0_7⟩⟩, c0_8, ⟨c0_9, c0_10, c0_11, c0_12, c0_13⟩, c0_14⟩ : DSched)).View.Jobs.Holder, .int .i64 (fallenSched (⟨c0_0, c0_1, ⟨⟨c0_2, c0_3, c0_4, c0_5, c0_6, l0_7⟩⟩, c0_8, ⟨c0_9, c0_10, c0_11, c0_12, c0_13⟩, c0_14⟩ : DSched)).View.Jobs.Epoch, .int .i64 (fallenSched (⟨c0_0, c0_1, ⟨⟨c0_2, c0_3, c0_4, c0_5, c0_6, l0_7⟩⟩, c0_8, ⟨c0_9, c0_10, c0_11, c0_12, c0_13⟩, c0_14⟩ : DSched)).View.Jobs.Until, .slice aw0_7 nw0_7 kw0_7, .bool (fallenSched (⟨c0_0, c0_1, ⟨⟨c0_2, c0_3, c0_4, c0_5, c0_6, l0_7⟩⟩, c0_8, ⟨c0_9, c0_10, c0_11, c0_12, c0_13⟩, c0_14⟩ : DSched)).Busy, .int .i64 (fallenSched (⟨c0_0, c0_1, ⟨⟨c0_2, c0_3, c0_4, c0_5, c0_6, l0_7⟩⟩, c0_8, ⟨c0_9, c0_10, c0_11, c0_12, c0_13⟩, c0_14⟩ : DSched)).Op.Kind, .int .i64 (fallenSched (⟨c0_0, c0_1, ⟨⟨c0_2, c0_3, c0_4, c0_5, c0_6, l0_7⟩⟩, c0_8, ⟨c0_9, c0_10, c0_11, c0_12, c0_13⟩, c0_14⟩ : DSched)).Op.A, .int .i64 (fallenSched (⟨c0_0, c0_1, ⟨⟨c0_2, c0_3, c0_4, c0_5, c0_6, l0_7⟩⟩, c0_8, ⟨c0_9, c0_10, c0_11, c0_12, c0_13⟩, c0_14⟩ : DSched)).Op.B, .int .i64 (fallenSched (⟨c0_0, c0_1, ⟨⟨c0_2, c0_3, c0_4, c0_5, c0_6, l0_7⟩⟩, c0_8, ⟨c0_9, c0_10, c0_11, c0_12, c0_13⟩, c0_14⟩ : DSched)).Op.C, .int .i64 (fallenSched (⟨c0_0, c0_1, ⟨⟨c0_2, c0_3, c0_4, c0_5, c0_6, l0_7⟩⟩, c0_8, ⟨c0_9, c0_10, c0_11, c0_12, c0_13⟩, c0_14⟩ : DSched)).Op.D, .int .i64 (fallenSched (⟨c0_0, c0_1, ⟨⟨c0_2, c0_3, c0_4, c0_5, c0_6, l0_7⟩⟩, c0_8, ⟨c0_9, c0_10, c0_11, c0_12, c0_13⟩, c0_14⟩ : DSched)).Index]).ext (by repeat' (first | (with_reducible exact Ext.refl _) | (with_reducible assumption) | (with_reducible refine Ext.drewN ?_ _) | (with_reducible refine Ext.drew ?_) | (with_reducible refine Ext.alloc ?_ _) | (with_reducible refine Ext.setCell ?_ ?_ _) | (with_reducible refine Ext.setRow ?_ ?_ _) | (with_reducible exact Nat.le_refl _) | (with_reducible refine Ext.trans ?_ (by assumption)) | omega))
  have MBw0 := Bw0.lt
  have Z4 := X4.size
  have E4 : Ext w w4 := E3.trans X4
  have Ba0 := Ba0.ext X4
  have gw0_7 := gw0_7.ext X4
  clear hx4
  clear CBa0 LBa0
  have CBa0 := Ba0.cell; have LBa0 := Ba0.lt
  have CBw0 := Bw0.cell; have LBw0 := Bw0.lt
  obtain ⟨ax0_7, nx0_7, kx0_7, rfl⟩ := gx0_7.shape
  have bx0_7 := gx0_7.foot; (try simp only [World.size_alloc] at bx0_7)
  go_wp2_with fail
  refine (fallenSched_c _ _ _ _ _ _ _ _ _ _ _ _ _ _ _ _ _ ((gx0_7.ints).ext (by repeat' (first | (with_reducible exact Ext.refl _) | (with_reducible assumption) | (with_reducible refine Ext.drewN ?_ _) | (with_reducible refine Ext.drew ?_) | (with_reducible refine Ext.alloc ?_ _) | (with_reducible refine Ext.setCell ?_ ?_ _) | (with_reducible refine Ext.setRow ?_ ?_ _) | (with_reducible exact Nat.le_refl _) | (with_reducible refine Ext.trans ?_ (by assumption)) | omega)))).mono ?_
  rintro e w5 ⟨_, rfl, hx5, ⟨tg0_7, rfl, gg0_7⟩⟩
  have X5 : Ext w4 w5 := by repeat' (first | (with_reducible exact Ext.refl _) | (with_reducible assumption) | (with_reducible refine Ext.drewN ?_ _) | (with_reducible refine Ext.drew ?_) | (with_reducible refine Ext.alloc ?_ _) | (with_reducible refine Ext.setCell ?_ ?_ _) | (with_reducible refine Ext.setRow ?_ ?_ _) | (with_reducible exact Nat.le_refl _) | (with_reducible refine Ext.trans ?_ (by assumption)) | omega)
  have Bx0 : Blk w5 w4.heap.size 43 #[.int .i64 c0_0, .int .i64 c0_1, .int .i64 c0_2, .int .i64 c0_3, .int .i64 c0_4, .int .i64 c0_5, .int .i64 c0_6, .slice ax0_7 nx0_7 kx0_7, .bool c0_8, .int .i64 c0_9, .int .i64 c0_10, .int .i64 c0_11, .int .i64 c0_12, .int .i64 c0_13, .int .i64 c0_14] := (Blk.new w4 43 #[.int .i64 c0_0, .int .i64 c0_1, .int .i64 c0_2, .int .i64 c0_3, .int .i64 c0_4, .int .i64 c0_5, .int .i64 c0_6, .slice ax0_7 nx0_7 kx0_7, .bool c0_8, .int .i64 c0_9, .int .i64 c0_10, .int .i64 c0_11, .int .i64 c0_12, .int .i64 c0_13, .int .i64 c0_14]).ext (by repeat' (first | (with_reducible exact Ext.refl _) | (with_reducible assumption) | (with_reducible refine Ext.drewN ?_ _) | (with_reducible refine Ext.drew ?_) | (with_reducible refine Ext.alloc ?_ _) | (with_reducible refine Ext.setCell ?_ ?_ _) | (with_reducible refine Ext.setRow ?_ ?_ _) | (with_reducible exact Nat.le_refl _) | (with_reducible refine Ext.trans ?_ (by assumption)) | omega))
  have MBx0 := Bx0.lt
  have Z5 := X5.size
  have E5 : Ext w w5 := E4.trans X5
  have Ba0 := Ba0.ext X5
  have gw0_7 := gw0_7.ext X5
  have Bw0 := Bw0.ext X5
  have gx0_7 := gx0_7.ext X5
  clear hx5
  clear CBa0 LBa0 CBw0 LBw0
  have CBa0 := Ba0.cell; have LBa0 := Ba0.lt
  have CBw0 := Bw0.cell; have LBw0 := Bw0.lt
  have CBx0 := Bx0.cell; have LBx0 := Bx0.lt
  obtain ⟨ag0_7, ng0_7, kg0_7, rfl⟩ := gg0_7.shape
  have bg0_7 := gg0_7.foot; (try simp only [World.size_alloc] at bg0_7)
  as_aux_lemma =>
    go_wp2_with fail
    refine (eqSched_c _ _ _ _ _ _ _ _ _ _ _ _ _ _ _ _ _ _ ((gg0_7.ints).ext (by repeat' (first | (with_reducible exact Ext.refl _) | (with_reducible assumption) | (with_reducible refine Ext.drewN ?_ _) | (with_reducible refine Ext.drew ?_) | (with_reducible refine Ext.alloc ?_ _) | (with_reducible refine Ext.setCell ?_ ?_ _) | (with_reducible refine Ext.setRow ?_ ?_ _) | (with_reducible exact Nat.le_refl _) | (with_reducible refine Ext.trans ?_ (by assumption)) | omega))) ((gw0_7.ints).ext (by repeat' (first | (with_reducible exact Ext.refl _) | (with_reducible assumption) | (with_reducible refine Ext.drewN ?_ _) | (with_reducible refine Ext.drew ?_) | (with_reducible refine Ext.alloc ?_ _) | (with_reducible refine Ext.setCell ?_ ?_ _) | (with_reducible refine Ext.setRow ?_ ?_ _) | (with_reducible exact Nat.le_refl _) | (with_reducible refine Ext.trans ?_ (by assumption)) | omega)))).mono ?_
    rintro e w6 ⟨rfl, hx6⟩
    have X6 : Ext w5 w6 := by repeat' (first | (with_reducible exact Ext.refl _) | (with_reducible assumption) | (with_reducible refine Ext.drewN ?_ _) | (with_reducible refine Ext.drew ?_) | (with_reducible refine Ext.alloc ?_ _) | (with_reducible refine Ext.setCell ?_ ?_ _) | (with_reducible refine Ext.setRow ?_ ?_ _) | (with_reducible exact Nat.le_refl _) | (with_reducible refine Ext.trans ?_ (by assumption)) | omega)
    have Bg0 : Blk w6 w5.heap.size 43 #[.int .i64 (fallenSched (⟨c0_0, c0_1, ⟨⟨c0_2, c0_3, c0_4, c0_5, c0_6, l0_7⟩⟩, c0_8, ⟨c0_9, c0_10, c0_11, c0_12, c0_13⟩, c0_14⟩ : DSched)).Id, .int .i64 (fallenSched (⟨c0_0, c0_1, ⟨⟨c0_2, c0_3, c0_4, c0_5, c0_6, l0_7⟩⟩, c0_8, ⟨c0_9, c0_10, c0_11, c0_12, c0_13⟩, c0_14⟩ : DSched)).Seq, .int .i64 (fallenSched (⟨c0_0, c0_1, ⟨⟨c0_2, c0_3, c0_4, c0_5, c0_6, l0_7⟩⟩, c0_8, ⟨c0_9, c0_10, c0_11, c0_12, c0_13⟩, c0_14⟩ : DSched)).View.Jobs.Index, .int .i64 (fallenSched (⟨c0_0, c0_1, ⟨⟨c0_2, c0_3, c0_4, c0_5, c0_6, l0_7⟩⟩, c0_8, ⟨c0_9, c0_10, c0_11, c0_12, c0_13⟩, c0_14⟩ : DSched)).View.Jobs.Time, .int .i64 (fallenSched (⟨c0_0, c0_1, ⟨⟨c0_2, c0_3, c0_4, c0_5, c0_6, l0_7⟩⟩, c0_8, ⟨c0_9, c0_10, c0_11, c0_12, c0_13⟩, c0_14⟩ : DSched)).View.Jobs.Holder, .int .i64 (fallenSched (⟨c0_0, c0_1, ⟨⟨c0_2, c0_3, c0_4, c0_5, c0_6, l0_7⟩⟩, c0_8, ⟨c0_9, c0_10, c0_11, c0_12, c0_13⟩, c0_14⟩ : DSched)).View.Jobs.Epoch, .int .i64 (fallenSched (⟨c0_0, c0_1, ⟨⟨c0_2, c0_3, c0_4, c0_5, c0_6, l0_7⟩⟩, c0_8, ⟨c0_9, c0_10, c0_11, c0_12, c0_13⟩, c0_14⟩ : DSched)).View.Jobs.Until, .slice ag0_7 ng0_7 kg0_7, .bool (fallenSched (⟨c0_0, c0_1, ⟨⟨c0_2, c0_3, c0_4, c0_5, c0_6, l0_7⟩⟩, c0_8, ⟨c0_9, c0_10, c0_11, c0_12, c0_13⟩, c0_14⟩ : DSched)).Busy, .int .i64 (fallenSched (⟨c0_0, c0_1, ⟨⟨c0_2, c0_3, c0_4, c0_5, c0_6, l0_7⟩⟩, c0_8, ⟨c0_9, c0_10, c0_11, c0_12, c0_13⟩, c0_14⟩ : DSched)).Op.Kind, .int .i64 (fallenSched (⟨c0_0, c0_1, ⟨⟨c0_2, c0_3, c0_4, c0_5, c0_6, l0_7⟩⟩, c0_8, ⟨c0_9, c0_10, c0_11, c0_12, c0_13⟩, c0_14⟩ : DSched)).Op.A, .int .i64 (fallenSched (⟨c0_0, c0_1, ⟨⟨c0_2, c0_3, c0_4, c0_5, c0_6, l0_7⟩⟩, c0_8, ⟨c0_9, c0_10, c0_11, c0_12, c0_13⟩, c0_14⟩ : DSched)).Op.B, .int .i64 (fallenSched (⟨c0_0, c0_1, ⟨⟨c0_2, c0_3, c0_4, c0_5, c0_6, l0_7⟩⟩, c0_8, ⟨c0_9, c0_10, c0_11, c0_12, c0_13⟩, c0_14⟩ : DSched)).Op.C, .int .i64 (fallenSched (⟨c0_0, c0_1, ⟨⟨c0_2, c0_3, c0_4, c0_5, c0_6, l0_7⟩⟩, c0_8, ⟨c0_9, c0_10, c0_11, c0_12, c0_13⟩, c0_14⟩ : DSched)).Op.D, .int .i64 (fallenSched (⟨c0_0, c0_1, ⟨⟨c0_2, c0_3, c0_4, c0_5, c0_6, l0_7⟩⟩, c0_8, ⟨c0_9, c0_10, c0_11, c0_12, c0_13⟩, c0_14⟩ : DSched)).Index] := (Blk.new w5 43 #[.int .i64 (fallenSched (⟨c0_0, c0_1, ⟨⟨c0_2, c0_3, c0_4, c0_5, c0_6, l0_7⟩⟩, c0_8, ⟨c0_9, c0_10, c0_11, c0_12, c0_13⟩, c0_14⟩ : DSched)).Id, .int .i64 (fallenSched (⟨c0_0, c0_1, ⟨⟨c0_2, c0_3, c0_4, c0_5, c0_6, l0_7⟩⟩, c0_8, ⟨c0_9, c0_10, c0_11, c0_12, c0_13⟩, c0_14⟩ : DSched)).Seq, .int .i64 (fallenSched (⟨c0_0, c0_1, ⟨⟨c0_2, c0_3, c0_4, c0_5, c0_6, l0_7⟩⟩, c0_8, ⟨c0_9, c0_10, c0_11, c0_12, c0_13⟩, c0_14⟩ : DSched)).View.Jobs.Index, .int .i64 (fallenSched (⟨c0_0, c0_1, ⟨⟨c0_2, c0_3, c0_4, c0_5, c0_6, l0_7⟩⟩, c0_8, ⟨c0_9, c0_10, c0_11, c0_12, c0_13⟩, c0_14⟩ : DSched)).View.Jobs.Time, .int .i64 (fallenSched (⟨c0_0, c0_1, ⟨⟨c0_2, c0_3, c0_4, c0_5, c0_6, l0_7⟩⟩, c0_8, ⟨c0_9, c0_10, c0_11, c0_12, c0_13⟩, c0_14⟩ : DSched)).View.Jobs.Holder, .int .i64 (fallenSched (⟨c0_0, c0_1, ⟨⟨c0_2, c0_3, c0_4, c0_5, c0_6, l0_7⟩⟩, c0_8, ⟨c0_9, c0_10, c0_11, c0_12, c0_13⟩, c0_14⟩ : DSched)).View.Jobs.Epoch, .int .i64 (fallenSched (⟨c0_0, c0_1, ⟨⟨c0_2, c0_3, c0_4, c0_5, c0_6, l0_7⟩⟩, c0_8, ⟨c0_9, c0_10, c0_11, c0_12, c0_13⟩, c0_14⟩ : DSched)).View.Jobs.Until, .slice ag0_7 ng0_7 kg0_7, .bool (fallenSched (⟨c0_0, c0_1, ⟨⟨c0_2, c0_3, c0_4, c0_5, c0_6, l0_7⟩⟩, c0_8, ⟨c0_9, c0_10, c0_11, c0_12, c0_13⟩, c0_14⟩ : DSched)).Busy, .int .i64 (fallenSched (⟨c0_0, c0_1, ⟨⟨c0_2, c0_3, c0_4, c0_5, c0_6, l0_7⟩⟩, c0_8, ⟨c0_9, c0_10, c0_11, c0_12, c0_13⟩, c0_14⟩ : DSched)).Op.Kind, .int .i64 (fallenSched (⟨c0_0, c0_1, ⟨⟨c0_2, c0_3, c0_4, c0_5, c0_6, l0_7⟩⟩, c0_8, ⟨c0_9, c0_10, c0_11, c0_12, c0_13⟩, c0_14⟩ : DSched)).Op.A, .int .i64 (fallenSched (⟨c0_0, c0_1, ⟨⟨c0_2, c0_3, c0_4, c0_5, c0_6, l0_7⟩⟩, c0_8, ⟨c0_9, c0_10, c0_11, c0_12, c0_13⟩, c0_14⟩ : DSched)).Op.B, .int .i64 (fallenSched (⟨c0_0, c0_1, ⟨⟨c0_2, c0_3, c0_4, c0_5, c0_6, l0_7⟩⟩, c0_8, ⟨c0_9, c0_10, c0_11, c0_12, c0_13⟩, c0_14⟩ : DSched)).Op.C, .int .i64 (fallenSched (⟨c0_0, c0_1, ⟨⟨c0_2, c0_3, c0_4, c0_5, c0_6, l0_7⟩⟩, c0_8, ⟨c0_9, c0_10, c0_11, c0_12, c0_13⟩, c0_14⟩ : DSched)).Op.D, .int .i64 (fallenSched (⟨c0_0, c0_1, ⟨⟨c0_2, c0_3, c0_4, c0_5, c0_6, l0_7⟩⟩, c0_8, ⟨c0_9, c0_10, c0_11, c0_12, c0_13⟩, c0_14⟩ : DSched)).Index]).ext (by repeat' (first | (with_reducible exact Ext.refl _) | (with_reducible assumption) | (with_reducible refine Ext.drewN ?_ _) | (with_reducible refine Ext.drew ?_) | (with_reducible refine Ext.alloc ?_ _) | (with_reducible refine Ext.setCell ?_ ?_ _) | (with_reducible refine Ext.setRow ?_ ?_ _) | (with_reducible exact Nat.le_refl _) | (with_reducible refine Ext.trans ?_ (by assumption)) | omega))
    have MBg0 := Bg0.lt
    have Z6 := X6.size
    have E6 : Ext w w6 := E5.trans X6
    have Ba0 := Ba0.ext X6
    have gw0_7 := gw0_7.ext X6
    have Bw0 := Bw0.ext X6
    have gx0_7 := gx0_7.ext X6
    have Bx0 := Bx0.ext X6
    have gg0_7 := gg0_7.ext X6
    clear hx6
    clear CBa0 LBa0 CBw0 LBw0 CBx0 LBx0
    have CBa0 := Ba0.cell; have LBa0 := Ba0.lt
    have CBw0 := Bw0.cell; have LBw0 := Bw0.lt
    have CBx0 := Bx0.cell; have LBx0 := Bx0.lt
    have CBg0 := Bg0.cell; have LBg0 := Bg0.lt
    go_wp2_with fail
    have p00 : ∀ w', Ext w6 w' → w'.cell? ⟨_, 0, none⟩ = some (.int .i64 c0_0) := fun w' hw => (Ba0.ext hw).cell 0
    have p01 : ∀ w', Ext w6 w' → w'.cell? ⟨_, 1, none⟩ = some (.int .i64 c0_1) := fun w' hw => (Ba0.ext hw).cell 1
    have p02 : ∀ w', Ext w6 w' → w'.cell? ⟨_, 2, none⟩ = some (.int .i64 c0_2) := fun w' hw => (Ba0.ext hw).cell 2
    have p03 : ∀ w', Ext w6 w' → w'.cell? ⟨_, 3, none⟩ = some (.int .i64 c0_3) := fun w' hw => (Ba0.ext hw).cell 3
    have p04 : ∀ w', Ext w6 w' → w'.cell? ⟨_, 4, none⟩ = some (.int .i64 c0_4) := fun w' hw => (Ba0.ext hw).cell 4
    have p05 : ∀ w', Ext w6 w' → w'.cell? ⟨_, 5, none⟩ = some (.int .i64 c0_5) := fun w' hw => (Ba0.ext hw).cell 5
    have p06 : ∀ w', Ext w6 w' → w'.cell? ⟨_, 6, none⟩ = some (.int .i64 c0_6) := fun w' hw => (Ba0.ext hw).cell 6
    have p07 : ∀ w', Ext w6 w' → w'.cell? ⟨_, 7, none⟩ = some (.slice a0_7 n0_7 k0_7) := fun w' hw => (Ba0.ext hw).cell 7
    have p08 : ∀ w', Ext w6 w' → w'.cell? ⟨_, 8, none⟩ = some (.bool c0_8) := fun w' hw => (Ba0.ext hw).cell 8
    have p09 : ∀ w', Ext w6 w' → w'.cell? ⟨_, 9, none⟩ = some (.int .i64 c0_9) := fun w' hw => (Ba0.ext hw).cell 9
    have p010 : ∀ w', Ext w6 w' → w'.cell? ⟨_, 10, none⟩ = some (.int .i64 c0_10) := fun w' hw => (Ba0.ext hw).cell 10
    have p011 : ∀ w', Ext w6 w' → w'.cell? ⟨_, 11, none⟩ = some (.int .i64 c0_11) := fun w' hw => (Ba0.ext hw).cell 11
    have p012 : ∀ w', Ext w6 w' → w'.cell? ⟨_, 12, none⟩ = some (.int .i64 c0_12) := fun w' hw => (Ba0.ext hw).cell 12
    have p013 : ∀ w', Ext w6 w' → w'.cell? ⟨_, 13, none⟩ = some (.int .i64 c0_13) := fun w' hw => (Ba0.ext hw).cell 13
    have p014 : ∀ w', Ext w6 w' → w'.cell? ⟨_, 14, none⟩ = some (.int .i64 c0_14) := fun w' hw => (Ba0.ext hw).cell 14
    have q00 : ∀ w', Ext w6 w' → w'.cell? ⟨_, 0, none⟩ = some (.int .i64 c0_0) := fun w' hw => (Bx0.ext hw).cell 0
    have q01 : ∀ w', Ext w6 w' → w'.cell? ⟨_, 1, none⟩ = some (.int .i64 c0_1) := fun w' hw => (Bx0.ext hw).cell 1
    have q02 : ∀ w', Ext w6 w' → w'.cell? ⟨_, 2, none⟩ = some (.int .i64 c0_2) := fun w' hw => (Bx0.ext hw).cell 2
    have q03 : ∀ w', Ext w6 w' → w'.cell? ⟨_, 3, none⟩ = some (.int .i64 c0_3) := fun w' hw => (Bx0.ext hw).cell 3
    have q04 : ∀ w', Ext w6 w' → w'.cell? ⟨_, 4, none⟩ = some (.int .i64 c0_4) := fun w' hw => (Bx0.ext hw).cell 4
    have q05 : ∀ w', Ext w6 w' → w'.cell? ⟨_, 5, none⟩ = some (.int .i64 c0_5) := fun w' hw => (Bx0.ext hw).cell 5
    have q06 : ∀ w', Ext w6 w' → w'.cell? ⟨_, 6, none⟩ = some (.int .i64 c0_6) := fun w' hw => (Bx0.ext hw).cell 6
    have q07 : ∀ w', Ext w6 w' → w'.cell? ⟨_, 7, none⟩ = some (.slice ax0_7 nx0_7 kx0_7) := fun w' hw => (Bx0.ext hw).cell 7
    have q08 : ∀ w', Ext w6 w' → w'.cell? ⟨_, 8, none⟩ = some (.bool c0_8) := fun w' hw => (Bx0.ext hw).cell 8
    have q09 : ∀ w', Ext w6 w' → w'.cell? ⟨_, 9, none⟩ = some (.int .i64 c0_9) := fun w' hw => (Bx0.ext hw).cell 9
    have q010 : ∀ w', Ext w6 w' → w'.cell? ⟨_, 10, none⟩ = some (.int .i64 c0_10) := fun w' hw => (Bx0.ext hw).cell 10
    have q011 : ∀ w', Ext w6 w' → w'.cell? ⟨_, 11, none⟩ = some (.int .i64 c0_11) := fun w' hw => (Bx0.ext hw).cell 11
    have q012 : ∀ w', Ext w6 w' → w'.cell? ⟨_, 12, none⟩ = some (.int .i64 c0_12) := fun w' hw => (Bx0.ext hw).cell 12
    have q013 : ∀ w', Ext w6 w' → w'.cell? ⟨_, 13, none⟩ = some (.int .i64 c0_13) := fun w' hw => (Bx0.ext hw).cell 13
    have q014 : ∀ w', Ext w6 w' → w'.cell? ⟨_, 14, none⟩ = some (.int .i64 c0_14) := fun w' hw => (Bx0.ext hw).cell 14
    clear CBa0 LBa0 CBw0 LBw0 CBx0 LBx0 CBg0 LBg0
    go_region_held3 (fun w' => Ext w6 w') (first | exact Ext.drew (Ext.refl _) | exact Ext.trans (by assumption) hx7 | exact Ext.trans (by assumption) hx8) (first | (go_at_call 10; refine (toSched_c _ _ _ _ _ _ _ _ _ _ _ (length_dues _) _ _ _ _ _ _ _ (h0_7.ext (Ext.trans E6 (by assumption))) q0_7).mono ?_; rintro e w7 ⟨_, rfl, hx7, tz0_7, rfl, gz0_7⟩; obtain ⟨az0_7, nz0_7, kz0_7, rfl⟩ := gz0_7.shape) | (go_at_call 13; refine (eqSched_c _ _ _ _ _ _ _ _ _ _ _ _ _ _ _ _ _ _ ((gx0_7.ints).ext (by assumption)) (gz0_7.ints)).mono ?_; rintro e w8 ⟨rfl, hx8⟩))
    have X8 : Ext w6 w8 := by assumption
    clear p00 p01 p02 p03 p04 p05 p06 p07 p08 p09 p010 p011 p012 p013 p014 q00 q01 q02 q03 q04 q05 q06 q07 q08 q09 q010 q011 q012 q013 q014
    clear hx8
    have Z8 := X8.size; have E8 : Ext w w8 := E6.trans X8
    have Ba0 := Ba0.ext X8
    have gw0_7 := gw0_7.ext X8
    have Bw0 := Bw0.ext X8
    have gx0_7 := gx0_7.ext X8
    have Bx0 := Bx0.ext X8
    have gg0_7 := gg0_7.ext X8
    have Bg0 := Bg0.ext X8
    have CBa0 := Ba0.cell; have LBa0 := Ba0.lt
    have CBw0 := Bw0.cell; have LBw0 := Bw0.lt
    have CBx0 := Bx0.cell; have LBx0 := Bx0.lt
    have CBg0 := Bg0.cell; have LBg0 := Bg0.lt
    as_aux_lemma =>
      go_wp2_with fail
      refine (markSched_c _ _ _ _ _ _ _ _ _ _ _ _ (length_dues _) _ _ _ _ _ _ _ 1 (gx0_7.ext (by repeat' (first | (with_reducible exact Ext.refl _) | (with_reducible assumption) | (with_reducible refine Ext.drewN ?_ _) | (with_reducible refine Ext.drew ?_) | (with_reducible refine Ext.alloc ?_ _) | (with_reducible refine Ext.setCell ?_ ?_ _) | (with_reducible refine Ext.setRow ?_ ?_ _) | (with_reducible exact Nat.le_refl _) | (with_reducible refine Ext.trans ?_ (by assumption)) | omega))) (by omega) (by omega)).mono ?_
      rintro e w9 ⟨rfl, hx9, gx0_7m⟩
      have X9 : Upd w8 w9 (feet [.slice ax0_7 nx0_7 kx0_7]) := (Ext.upd (by repeat' (first | (with_reducible exact Ext.refl _) | (with_reducible assumption) | (with_reducible refine Ext.drewN ?_ _) | (with_reducible refine Ext.drew ?_) | (with_reducible refine Ext.alloc ?_ _) | (with_reducible refine Ext.setCell ?_ ?_ _) | (with_reducible refine Ext.setRow ?_ ?_ _) | (with_reducible exact Nat.le_refl _) | (with_reducible refine Ext.trans ?_ (by assumption)) | omega)) _).trans hx9
      have Z9 := X9.size
      have E9 : Ext w w9 := E8.upd_below X9 (fun k hk => by have := bx0_7 k hk; omega)
      have Ba0 := Ba0.upd X9 (fun hk => by have := bx0_7 _ hk; omega)
      have gw0_7 := OwnI.upd' gw0_7 X9 (fun k hk hk' => by have := bx0_7 k hk'; have := bw0_7 k hk; omega)
      have Bw0 := Bw0.upd X9 (fun hk => by have := bx0_7 _ hk; omega)
      have Bx0 := Bx0.upd X9 (fun hk => by have := bx0_7 _ hk; omega)
      have gg0_7 := OwnI.upd' gg0_7 X9 (fun k hk hk' => by have := bx0_7 k hk'; have := bg0_7 k hk; omega)
      have Bg0 := Bg0.upd X9 (fun hk => by have := bx0_7 _ hk; omega)
      have gx0_7 := gx0_7m; clear gx0_7m
      clear hx9
      clear CBa0 LBa0 CBw0 LBw0 CBx0 LBx0 CBg0 LBg0
      have CBa0 := Ba0.cell; have LBa0 := Ba0.lt
      have CBw0 := Bw0.cell; have LBw0 := Bw0.lt
      have CBx0 := Bx0.cell; have LBx0 := Bx0.lt
      have CBg0 := Bg0.cell; have LBg0 := Bg0.lt
      obtain ⟨M0, hM0⟩ : ∃ z : Int, z = 1 + ((l0_7.length * 2 : Nat) : Int) := ⟨_, rfl⟩
      rw [← hM0]
      have pM0 : 0 ≤ M0 ∧ M0 ≤ 1048577 * 100 := by omega
      have HM0 := Lib.hid hM0; clear hM0; obtain ⟨pM0, pM0x⟩ := pM0; have dM0 : decide (M0 < 0) = false := by simp; omega
      go_wp2_with fail
      refine (eqSched_c _ _ _ _ _ _ _ _ _ _ _ _ _ _ _ _ _ _ ((gg0_7.ints).ext (by repeat' (first | (with_reducible exact Ext.refl _) | (with_reducible assumption) | (with_reducible refine Ext.drewN ?_ _) | (with_reducible refine Ext.drew ?_) | (with_reducible refine Ext.alloc ?_ _) | (with_reducible refine Ext.setCell ?_ ?_ _) | (with_reducible refine Ext.setRow ?_ ?_ _) | (with_reducible exact Nat.le_refl _) | (with_reducible refine Ext.trans ?_ (by assumption)) | omega))) ((gw0_7.ints).ext (by repeat' (first | (with_reducible exact Ext.refl _) | (with_reducible assumption) | (with_reducible refine Ext.drewN ?_ _) | (with_reducible refine Ext.drew ?_) | (with_reducible refine Ext.alloc ?_ _) | (with_reducible refine Ext.setCell ?_ ?_ _) | (with_reducible refine Ext.setRow ?_ ?_ _) | (with_reducible exact Nat.le_refl _) | (with_reducible refine Ext.trans ?_ (by assumption)) | omega)))).mono ?_
      rintro e w10 ⟨rfl, hx10⟩
      have X10 : Ext w9 w10 := by repeat' (first | (with_reducible exact Ext.refl _) | (with_reducible assumption) | (with_reducible refine Ext.drewN ?_ _) | (with_reducible refine Ext.drew ?_) | (with_reducible refine Ext.alloc ?_ _) | (with_reducible refine Ext.setCell ?_ ?_ _) | (with_reducible refine Ext.setRow ?_ ?_ _) | (with_reducible exact Nat.le_refl _) | (with_reducible refine Ext.trans ?_ (by assumption)) | omega)
      have Z10 := X10.size
      have E10 : Ext w w10 := E9.trans X10
      have Ba0 := Ba0.ext X10
      have gw0_7 := gw0_7.ext X10
      have Bw0 := Bw0.ext X10
      have gx0_7 := gx0_7.ext X10
      have Bx0 := Bx0.ext X10
      have gg0_7 := gg0_7.ext X10
      have Bg0 := Bg0.ext X10
      clear hx10
      clear CBa0 LBa0 CBw0 LBw0 CBx0 LBx0 CBg0 LBg0
      have CBa0 := Ba0.cell; have LBa0 := Ba0.lt
      have CBw0 := Bw0.cell; have LBw0 := Bw0.lt
      have CBx0 := Bx0.cell; have LBx0 := Bx0.lt
      have CBg0 := Bg0.cell; have LBg0 := Bg0.lt
      have hsm : ((fallenSched (⟨c0_0, c0_1, ⟨⟨c0_2, c0_3, c0_4, c0_5, c0_6, l0_7⟩⟩, c0_8, ⟨c0_9, c0_10, c0_11, c0_12, c0_13⟩, c0_14⟩ : DSched)).View.Jobs.Open.length * 2 : Nat) ≤ 4611686018427387000 := by have := fallenSched_len (⟨c0_0, c0_1, ⟨⟨c0_2, c0_3, c0_4, c0_5, c0_6, l0_7⟩⟩, c0_8, ⟨c0_9, c0_10, c0_11, c0_12, c0_13⟩, c0_14⟩ : DSched); omega
      go_wp2_with fail
      refine (markSched_c _ _ _ _ _ _ _ _ _ _ _ _ (length_dues _) _ _ _ _ _ _ _ 1 (gg0_7.ext (by repeat' (first | (with_reducible exact Ext.refl _) | (with_reducible assumption) | (with_reducible refine Ext.drewN ?_ _) | (with_reducible refine Ext.drew ?_) | (with_reducible refine Ext.alloc ?_ _) | (with_reducible refine Ext.setCell ?_ ?_ _) | (with_reducible refine Ext.setRow ?_ ?_ _) | (with_reducible exact Nat.le_refl _) | (with_reducible refine Ext.trans ?_ (by assumption)) | omega))) (by omega) (by omega)).mono ?_
      rintro e w11 ⟨rfl, hx11, gg0_7m⟩
      have X11 : Upd w10 w11 (feet [.slice ag0_7 ng0_7 kg0_7]) := (Ext.upd (by repeat' (first | (with_reducible exact Ext.refl _) | (with_reducible assumption) | (with_reducible refine Ext.drewN ?_ _) | (with_reducible refine Ext.drew ?_) | (with_reducible refine Ext.alloc ?_ _) | (with_reducible refine Ext.setCell ?_ ?_ _) | (with_reducible refine Ext.setRow ?_ ?_ _) | (with_reducible exact Nat.le_refl _) | (with_reducible refine Ext.trans ?_ (by assumption)) | omega)) _).trans hx11
      have Z11 := X11.size
      have E11 : Ext w w11 := E10.upd_below X11 (fun k hk => by have := bg0_7 k hk; omega)
      have Ba0 := Ba0.upd X11 (fun hk => by have := bg0_7 _ hk; omega)
      have gw0_7 := OwnI.upd' gw0_7 X11 (fun k hk hk' => by have := bg0_7 k hk'; have := bw0_7 k hk; omega)
      have Bw0 := Bw0.upd X11 (fun hk => by have := bg0_7 _ hk; omega)
      have gx0_7 := OwnI.upd' gx0_7 X11 (fun k hk hk' => by have := bg0_7 k hk'; have := bx0_7 k hk; omega)
      have Bx0 := Bx0.upd X11 (fun hk => by have := bg0_7 _ hk; omega)
      have Bg0 := Bg0.upd X11 (fun hk => by have := bg0_7 _ hk; omega)
      have gg0_7 := gg0_7m; clear gg0_7m
      clear hx11
      clear CBa0 LBa0 CBw0 LBw0 CBx0 LBx0 CBg0 LBg0
      have CBa0 := Ba0.cell; have LBa0 := Ba0.lt
      have CBw0 := Bw0.cell; have LBw0 := Bw0.lt
      have CBx0 := Bx0.cell; have LBx0 := Bx0.lt
      have CBg0 := Bg0.cell; have LBg0 := Bg0.lt
      obtain ⟨N, hN⟩ : ∃ z : Int, z = 1 + (((fallenSched (⟨c0_0, c0_1, ⟨⟨c0_2, c0_3, c0_4, c0_5, c0_6, l0_7⟩⟩, c0_8, ⟨c0_9, c0_10, c0_11, c0_12, c0_13⟩, c0_14⟩ : DSched)).View.Jobs.Open.length * 2 : Nat) : Int) := ⟨_, rfl⟩
      rw [← hN]
      have pN : 0 ≤ N := by omega
      have HN := Lib.hid hN; clear hN; have dN : decide (N < 0) = false := by simp; omega
      go_wp2_with fail
      refine (heldSched_c _ _ _ _ _ _ _ _ _ (fallenSched (⟨c0_0, c0_1, ⟨⟨c0_2, c0_3, c0_4, c0_5, c0_6, l0_7⟩⟩, c0_8, ⟨c0_9, c0_10, c0_11, c0_12, c0_13⟩, c0_14⟩ : DSched)).View.Jobs.Open.length _ _ _ _ _ _ _ 1 (gg0_7.ints.ext (by repeat' (first | (with_reducible exact Ext.refl _) | (with_reducible assumption) | (with_reducible refine Ext.drewN ?_ _) | (with_reducible refine Ext.drew ?_) | (with_reducible refine Ext.alloc ?_ _) | (with_reducible refine Ext.setCell ?_ ?_ _) | (with_reducible refine Ext.setRow ?_ ?_ _) | (with_reducible exact Nat.le_refl _) | (with_reducible refine Ext.trans ?_ (by assumption)) | omega))) (by omega) (by omega)).mono ?_
      rintro e w12 ⟨rfl, hx12⟩
      have X12 : Ext w11 w12 := by repeat' (first | (with_reducible exact Ext.refl _) | (with_reducible assumption) | (with_reducible refine Ext.drewN ?_ _) | (with_reducible refine Ext.drew ?_) | (with_reducible refine Ext.alloc ?_ _) | (with_reducible refine Ext.setCell ?_ ?_ _) | (with_reducible refine Ext.setRow ?_ ?_ _) | (with_reducible exact Nat.le_refl _) | (with_reducible refine Ext.trans ?_ (by assumption)) | omega)
      have Z12 := X12.size
      have E12 : Ext w w12 := E11.trans X12
      have Ba0 := Ba0.ext X12
      have gw0_7 := gw0_7.ext X12
      have Bw0 := Bw0.ext X12
      have gx0_7 := gx0_7.ext X12
      have Bx0 := Bx0.ext X12
      have gg0_7 := gg0_7.ext X12
      have Bg0 := Bg0.ext X12
      clear hx12
      clear CBa0 LBa0 CBw0 LBw0 CBx0 LBx0 CBg0 LBg0
      have CBa0 := Ba0.cell; have LBa0 := Ba0.lt
      have CBw0 := Bw0.cell; have LBw0 := Bw0.lt
      have CBx0 := Bx0.cell; have LBx0 := Bx0.lt
      have CBg0 := Bg0.cell; have LBg0 := Bg0.lt
      rw [← HN.out]
      as_aux_lemma =>
        go_wp2_with fail
        refine (toSched_c _ _ _ _ _ _ _ _ _ _ _ (length_dues _) _ _ _ _ _ _ _ (h0_7.ext (E12.trans (by repeat' (first | (with_reducible exact Ext.refl _) | (with_reducible assumption) | (with_reducible refine Ext.drewN ?_ _) | (with_reducible refine Ext.drew ?_) | (with_reducible refine Ext.alloc ?_ _) | (with_reducible refine Ext.setCell ?_ ?_ _) | (with_reducible refine Ext.setRow ?_ ?_ _) | (with_reducible exact Nat.le_refl _) | (with_reducible refine Ext.trans ?_ (by assumption)) | omega)))) q0_7).mono ?_
        rintro e w13 ⟨_, rfl, hx13, to0_7, rfl, go0_7⟩
        have X13 : Ext w12 w13 := by repeat' (first | (with_reducible exact Ext.refl _) | (with_reducible assumption) | (with_reducible refine Ext.drewN ?_ _) | (with_reducible refine Ext.drew ?_) | (with_reducible refine Ext.alloc ?_ _) | (with_reducible refine Ext.setCell ?_ ?_ _) | (with_reducible refine Ext.setRow ?_ ?_ _) | (with_reducible exact Nat.le_refl _) | (with_reducible refine Ext.trans ?_ (by assumption)) | omega)
        have Z13 := X13.size
        have E13 : Ext w w13 := E12.trans X13
        have Ba0 := Ba0.ext X13
        have gw0_7 := gw0_7.ext X13
        have Bw0 := Bw0.ext X13
        have gx0_7 := gx0_7.ext X13
        have Bx0 := Bx0.ext X13
        have gg0_7 := gg0_7.ext X13
        have Bg0 := Bg0.ext X13
        clear hx13
        clear CBa0 LBa0 CBw0 LBw0 CBx0 LBx0 CBg0 LBg0
        have CBa0 := Ba0.cell; have LBa0 := Ba0.lt
        have CBw0 := Bw0.cell; have LBw0 := Bw0.lt
        have CBx0 := Bx0.cell; have LBx0 := Bx0.lt
        have CBg0 := Bg0.cell; have LBg0 := Bg0.lt
        obtain ⟨ao0_7, no0_7, ko0_7, rfl⟩ := go0_7.shape
        have bo0_7 := go0_7.foot; (try simp only [World.size_alloc] at bo0_7)
        go_wp2_with fail
        refine (fallenSched_c _ _ _ _ _ _ _ _ _ _ _ _ _ _ _ _ _ ((go0_7.ints).ext (by repeat' (first | (with_reducible exact Ext.refl _) | (with_reducible assumption) | (with_reducible refine Ext.drewN ?_ _) | (with_reducible refine Ext.drew ?_) | (with_reducible refine Ext.alloc ?_ _) | (with_reducible refine Ext.setCell ?_ ?_ _) | (with_reducible refine Ext.setRow ?_ ?_ _) | (with_reducible exact Nat.le_refl _) | (with_reducible refine Ext.trans ?_ (by assumption)) | omega)))).mono ?_
        rintro e w14 ⟨_, rfl, hx14, ⟨th0_7, rfl, gh0_7⟩⟩
        have X14 : Ext w13 w14 := by repeat' (first | (with_reducible exact Ext.refl _) | (with_reducible assumption) | (with_reducible refine Ext.drewN ?_ _) | (with_reducible refine Ext.drew ?_) | (with_reducible refine Ext.alloc ?_ _) | (with_reducible refine Ext.setCell ?_ ?_ _) | (with_reducible refine Ext.setRow ?_ ?_ _) | (with_reducible exact Nat.le_refl _) | (with_reducible refine Ext.trans ?_ (by assumption)) | omega)
        have Z14 := X14.size
        have E14 : Ext w w14 := E13.trans X14
        have Ba0 := Ba0.ext X14
        have gw0_7 := gw0_7.ext X14
        have Bw0 := Bw0.ext X14
        have gx0_7 := gx0_7.ext X14
        have Bx0 := Bx0.ext X14
        have gg0_7 := gg0_7.ext X14
        have Bg0 := Bg0.ext X14
        have go0_7 := go0_7.ext X14
        clear hx14
        clear CBa0 LBa0 CBw0 LBw0 CBx0 LBx0 CBg0 LBg0
        have CBa0 := Ba0.cell; have LBa0 := Ba0.lt
        have CBw0 := Bw0.cell; have LBw0 := Bw0.lt
        have CBx0 := Bx0.cell; have LBx0 := Bx0.lt
        have CBg0 := Bg0.cell; have LBg0 := Bg0.lt
        obtain ⟨ah0_7, nh0_7, kh0_7, rfl⟩ := gh0_7.shape
        have bh0_7 := gh0_7.foot; (try simp only [World.size_alloc] at bh0_7)
        go_wp2_with fail
        refine (eqSched_c _ _ _ _ _ _ _ _ _ _ _ _ _ _ _ _ _ _ ((gh0_7.ints).ext (by repeat' (first | (with_reducible exact Ext.refl _) | (with_reducible assumption) | (with_reducible refine Ext.drewN ?_ _) | (with_reducible refine Ext.drew ?_) | (with_reducible refine Ext.alloc ?_ _) | (with_reducible refine Ext.setCell ?_ ?_ _) | (with_reducible refine Ext.setRow ?_ ?_ _) | (with_reducible exact Nat.le_refl _) | (with_reducible refine Ext.trans ?_ (by assumption)) | omega))) ((gw0_7.ints).ext (by repeat' (first | (with_reducible exact Ext.refl _) | (with_reducible assumption) | (with_reducible refine Ext.drewN ?_ _) | (with_reducible refine Ext.drew ?_) | (with_reducible refine Ext.alloc ?_ _) | (with_reducible refine Ext.setCell ?_ ?_ _) | (with_reducible refine Ext.setRow ?_ ?_ _) | (with_reducible exact Nat.le_refl _) | (with_reducible refine Ext.trans ?_ (by assumption)) | omega)))).mono ?_
        rintro e w15 ⟨rfl, hx15⟩
        have X15 : Ext w14 w15 := by repeat' (first | (with_reducible exact Ext.refl _) | (with_reducible assumption) | (with_reducible refine Ext.drewN ?_ _) | (with_reducible refine Ext.drew ?_) | (with_reducible refine Ext.alloc ?_ _) | (with_reducible refine Ext.setCell ?_ ?_ _) | (with_reducible refine Ext.setRow ?_ ?_ _) | (with_reducible exact Nat.le_refl _) | (with_reducible refine Ext.trans ?_ (by assumption)) | omega)
        have Bh0 : Blk w15 w14.heap.size 43 #[.int .i64 (fallenSched (⟨c0_0, c0_1, ⟨⟨c0_2, c0_3, c0_4, c0_5, c0_6, l0_7⟩⟩, c0_8, ⟨c0_9, c0_10, c0_11, c0_12, c0_13⟩, c0_14⟩ : DSched)).Id, .int .i64 (fallenSched (⟨c0_0, c0_1, ⟨⟨c0_2, c0_3, c0_4, c0_5, c0_6, l0_7⟩⟩, c0_8, ⟨c0_9, c0_10, c0_11, c0_12, c0_13⟩, c0_14⟩ : DSched)).Seq, .int .i64 (fallenSched (⟨c0_0, c0_1, ⟨⟨c0_2, c0_3, c0_4, c0_5, c0_6, l0_7⟩⟩, c0_8, ⟨c0_9, c0_10, c0_11, c0_12, c0_13⟩, c0_14⟩ : DSched)).View.Jobs.Index, .int .i64 (fallenSched (⟨c0_0, c0_1, ⟨⟨c0_2, c0_3, c0_4, c0_5, c0_6, l0_7⟩⟩, c0_8, ⟨c0_9, c0_10, c0_11, c0_12, c0_13⟩, c0_14⟩ : DSched)).View.Jobs.Time, .int .i64 (fallenSched (⟨c0_0, c0_1, ⟨⟨c0_2, c0_3, c0_4, c0_5, c0_6, l0_7⟩⟩, c0_8, ⟨c0_9, c0_10, c0_11, c0_12, c0_13⟩, c0_14⟩ : DSched)).View.Jobs.Holder, .int .i64 (fallenSched (⟨c0_0, c0_1, ⟨⟨c0_2, c0_3, c0_4, c0_5, c0_6, l0_7⟩⟩, c0_8, ⟨c0_9, c0_10, c0_11, c0_12, c0_13⟩, c0_14⟩ : DSched)).View.Jobs.Epoch, .int .i64 (fallenSched (⟨c0_0, c0_1, ⟨⟨c0_2, c0_3, c0_4, c0_5, c0_6, l0_7⟩⟩, c0_8, ⟨c0_9, c0_10, c0_11, c0_12, c0_13⟩, c0_14⟩ : DSched)).View.Jobs.Until, .slice ah0_7 nh0_7 kh0_7, .bool (fallenSched (⟨c0_0, c0_1, ⟨⟨c0_2, c0_3, c0_4, c0_5, c0_6, l0_7⟩⟩, c0_8, ⟨c0_9, c0_10, c0_11, c0_12, c0_13⟩, c0_14⟩ : DSched)).Busy, .int .i64 (fallenSched (⟨c0_0, c0_1, ⟨⟨c0_2, c0_3, c0_4, c0_5, c0_6, l0_7⟩⟩, c0_8, ⟨c0_9, c0_10, c0_11, c0_12, c0_13⟩, c0_14⟩ : DSched)).Op.Kind, .int .i64 (fallenSched (⟨c0_0, c0_1, ⟨⟨c0_2, c0_3, c0_4, c0_5, c0_6, l0_7⟩⟩, c0_8, ⟨c0_9, c0_10, c0_11, c0_12, c0_13⟩, c0_14⟩ : DSched)).Op.A, .int .i64 (fallenSched (⟨c0_0, c0_1, ⟨⟨c0_2, c0_3, c0_4, c0_5, c0_6, l0_7⟩⟩, c0_8, ⟨c0_9, c0_10, c0_11, c0_12, c0_13⟩, c0_14⟩ : DSched)).Op.B, .int .i64 (fallenSched (⟨c0_0, c0_1, ⟨⟨c0_2, c0_3, c0_4, c0_5, c0_6, l0_7⟩⟩, c0_8, ⟨c0_9, c0_10, c0_11, c0_12, c0_13⟩, c0_14⟩ : DSched)).Op.C, .int .i64 (fallenSched (⟨c0_0, c0_1, ⟨⟨c0_2, c0_3, c0_4, c0_5, c0_6, l0_7⟩⟩, c0_8, ⟨c0_9, c0_10, c0_11, c0_12, c0_13⟩, c0_14⟩ : DSched)).Op.D, .int .i64 (fallenSched (⟨c0_0, c0_1, ⟨⟨c0_2, c0_3, c0_4, c0_5, c0_6, l0_7⟩⟩, c0_8, ⟨c0_9, c0_10, c0_11, c0_12, c0_13⟩, c0_14⟩ : DSched)).Index] := (Blk.new w14 43 #[.int .i64 (fallenSched (⟨c0_0, c0_1, ⟨⟨c0_2, c0_3, c0_4, c0_5, c0_6, l0_7⟩⟩, c0_8, ⟨c0_9, c0_10, c0_11, c0_12, c0_13⟩, c0_14⟩ : DSched)).Id, .int .i64 (fallenSched (⟨c0_0, c0_1, ⟨⟨c0_2, c0_3, c0_4, c0_5, c0_6, l0_7⟩⟩, c0_8, ⟨c0_9, c0_10, c0_11, c0_12, c0_13⟩, c0_14⟩ : DSched)).Seq, .int .i64 (fallenSched (⟨c0_0, c0_1, ⟨⟨c0_2, c0_3, c0_4, c0_5, c0_6, l0_7⟩⟩, c0_8, ⟨c0_9, c0_10, c0_11, c0_12, c0_13⟩, c0_14⟩ : DSched)).View.Jobs.Index, .int .i64 (fallenSched (⟨c0_0, c0_1, ⟨⟨c0_2, c0_3, c0_4, c0_5, c0_6, l0_7⟩⟩, c0_8, ⟨c0_9, c0_10, c0_11, c0_12, c0_13⟩, c0_14⟩ : DSched)).View.Jobs.Time, .int .i64 (fallenSched (⟨c0_0, c0_1, ⟨⟨c0_2, c0_3, c0_4, c0_5, c0_6, l0_7⟩⟩, c0_8, ⟨c0_9, c0_10, c0_11, c0_12, c0_13⟩, c0_14⟩ : DSched)).View.Jobs.Holder, .int .i64 (fallenSched (⟨c0_0, c0_1, ⟨⟨c0_2, c0_3, c0_4, c0_5, c0_6, l0_7⟩⟩, c0_8, ⟨c0_9, c0_10, c0_11, c0_12, c0_13⟩, c0_14⟩ : DSched)).View.Jobs.Epoch, .int .i64 (fallenSched (⟨c0_0, c0_1, ⟨⟨c0_2, c0_3, c0_4, c0_5, c0_6, l0_7⟩⟩, c0_8, ⟨c0_9, c0_10, c0_11, c0_12, c0_13⟩, c0_14⟩ : DSched)).View.Jobs.Until, .slice ah0_7 nh0_7 kh0_7, .bool (fallenSched (⟨c0_0, c0_1, ⟨⟨c0_2, c0_3, c0_4, c0_5, c0_6, l0_7⟩⟩, c0_8, ⟨c0_9, c0_10, c0_11, c0_12, c0_13⟩, c0_14⟩ : DSched)).Busy, .int .i64 (fallenSched (⟨c0_0, c0_1, ⟨⟨c0_2, c0_3, c0_4, c0_5, c0_6, l0_7⟩⟩, c0_8, ⟨c0_9, c0_10, c0_11, c0_12, c0_13⟩, c0_14⟩ : DSched)).Op.Kind, .int .i64 (fallenSched (⟨c0_0, c0_1, ⟨⟨c0_2, c0_3, c0_4, c0_5, c0_6, l0_7⟩⟩, c0_8, ⟨c0_9, c0_10, c0_11, c0_12, c0_13⟩, c0_14⟩ : DSched)).Op.A, .int .i64 (fallenSched (⟨c0_0, c0_1, ⟨⟨c0_2, c0_3, c0_4, c0_5, c0_6, l0_7⟩⟩, c0_8, ⟨c0_9, c0_10, c0_11, c0_12, c0_13⟩, c0_14⟩ : DSched)).Op.B, .int .i64 (fallenSched (⟨c0_0, c0_1, ⟨⟨c0_2, c0_3, c0_4, c0_5, c0_6, l0_7⟩⟩, c0_8, ⟨c0_9, c0_10, c0_11, c0_12, c0_13⟩, c0_14⟩ : DSched)).Op.C, .int .i64 (fallenSched (⟨c0_0, c0_1, ⟨⟨c0_2, c0_3, c0_4, c0_5, c0_6, l0_7⟩⟩, c0_8, ⟨c0_9, c0_10, c0_11, c0_12, c0_13⟩, c0_14⟩ : DSched)).Op.D, .int .i64 (fallenSched (⟨c0_0, c0_1, ⟨⟨c0_2, c0_3, c0_4, c0_5, c0_6, l0_7⟩⟩, c0_8, ⟨c0_9, c0_10, c0_11, c0_12, c0_13⟩, c0_14⟩ : DSched)).Index]).ext (by repeat' (first | (with_reducible exact Ext.refl _) | (with_reducible assumption) | (with_reducible refine Ext.drewN ?_ _) | (with_reducible refine Ext.drew ?_) | (with_reducible refine Ext.alloc ?_ _) | (with_reducible refine Ext.setCell ?_ ?_ _) | (with_reducible refine Ext.setRow ?_ ?_ _) | (with_reducible exact Nat.le_refl _) | (with_reducible refine Ext.trans ?_ (by assumption)) | omega))
        have MBh0 := Bh0.lt
        have Z15 := X15.size
        have E15 : Ext w w15 := E14.trans X15
        have Ba0 := Ba0.ext X15
        have gw0_7 := gw0_7.ext X15
        have Bw0 := Bw0.ext X15
        have gx0_7 := gx0_7.ext X15
        have Bx0 := Bx0.ext X15
        have gg0_7 := gg0_7.ext X15
        have Bg0 := Bg0.ext X15
        have go0_7 := go0_7.ext X15
        have gh0_7 := gh0_7.ext X15
        clear hx15
        clear CBa0 LBa0 CBw0 LBw0 CBx0 LBx0 CBg0 LBg0
        have CBa0 := Ba0.cell; have LBa0 := Ba0.lt
        have CBw0 := Bw0.cell; have LBw0 := Bw0.lt
        have CBx0 := Bx0.cell; have LBx0 := Bx0.lt
        have CBg0 := Bg0.cell; have LBg0 := Bg0.lt
        have CBh0 := Bh0.cell; have LBh0 := Bh0.lt
        go_wp2_with fail
        refine (heldSched_c _ _ _ _ _ _ _ _ _ (fallenSched (⟨c0_0, c0_1, ⟨⟨c0_2, c0_3, c0_4, c0_5, c0_6, l0_7⟩⟩, c0_8, ⟨c0_9, c0_10, c0_11, c0_12, c0_13⟩, c0_14⟩ : DSched)).View.Jobs.Open.length _ _ _ _ _ _ _ 1 (gg0_7.ints.ext (by repeat' (first | (with_reducible exact Ext.refl _) | (with_reducible assumption) | (with_reducible refine Ext.drewN ?_ _) | (with_reducible refine Ext.drew ?_) | (with_reducible refine Ext.alloc ?_ _) | (with_reducible refine Ext.setCell ?_ ?_ _) | (with_reducible refine Ext.setRow ?_ ?_ _) | (with_reducible exact Nat.le_refl _) | (with_reducible refine Ext.trans ?_ (by assumption)) | omega))) (by omega) (by omega)).mono ?_
        rintro e w16 ⟨rfl, hx16⟩
        have X16 : Ext w15 w16 := by repeat' (first | (with_reducible exact Ext.refl _) | (with_reducible assumption) | (with_reducible refine Ext.drewN ?_ _) | (with_reducible refine Ext.drew ?_) | (with_reducible refine Ext.alloc ?_ _) | (with_reducible refine Ext.setCell ?_ ?_ _) | (with_reducible refine Ext.setRow ?_ ?_ _) | (with_reducible exact Nat.le_refl _) | (with_reducible refine Ext.trans ?_ (by assumption)) | omega)
        have Z16 := X16.size
        have E16 : Ext w w16 := E15.trans X16
        have Ba0 := Ba0.ext X16
        have gw0_7 := gw0_7.ext X16
        have Bw0 := Bw0.ext X16
        have gx0_7 := gx0_7.ext X16
        have Bx0 := Bx0.ext X16
        have gg0_7 := gg0_7.ext X16
        have Bg0 := Bg0.ext X16
        have go0_7 := go0_7.ext X16
        have gh0_7 := gh0_7.ext X16
        have Bh0 := Bh0.ext X16
        clear hx16
        clear CBa0 LBa0 CBw0 LBw0 CBx0 LBx0 CBg0 LBg0 CBh0 LBh0
        have CBa0 := Ba0.cell; have LBa0 := Ba0.lt
        have CBw0 := Bw0.cell; have LBw0 := Bw0.lt
        have CBx0 := Bx0.cell; have LBx0 := Bx0.lt
        have CBg0 := Bg0.cell; have LBg0 := Bg0.lt
        have CBh0 := Bh0.cell; have LBh0 := Bh0.lt
        rw [← HN.out]
        go_wp2
        go_ret
        exact ⟨rfl, E16⟩
end Go.Proofs.Ythegnmdknenefaa
