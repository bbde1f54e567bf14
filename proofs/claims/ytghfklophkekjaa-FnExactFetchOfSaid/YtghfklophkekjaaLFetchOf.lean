/- The statement's walk: FnExactFetchOf. -/
import Derived.Test.YtghfklophkekjaaP7
import Derived.Test.YtghfklophkekjaaHelpH
namespace Go.Proofs.Ytghfklophkekjaa
open Go.RowKit Go.G8

set_option maxHeartbeats 4000000 in
set_option maxRecDepth 100000 in
theorem law_FetchOf (w : World) (s0_0 : Value) (l0_0 : List (List Int)) (s0_1 : Value) (l0_1 : List DWrite) (c0_2 : Int) (c0_3 : Int) (s0_4 : Value) (l0_4 : List DPair) (s0_5 : Value) (l0_5 : List DJob) (c0_6 : Int) (c0_7 : Int) (c0_8 : Int) (c0_9 : Int) (c0_10 : Int) (c0_11 : Int) (h0_0 : Nest 0 w s0_0 (nestInt64S l0_0)) (h0_1 : Nest 1 w s0_1 (nestWrite l0_1)) (h0_4 : Ints 2 w s0_4 (flPair l0_4)) (h0_5 : Ints 5 w s0_5 (flJob l0_5)) : Calls Try.prog 8 #[.agg #[s0_0, s0_1, .int .i64 c0_2, .int .i64 c0_3, s0_4, s0_5, .int .i64 c0_6, .int .i64 c0_7, .int .i64 c0_8, .int .i64 c0_9, .int .i64 c0_10, .int .i64 c0_11]] w (RetV w (.bool true)) := by
  obtain ⟨a0_0, n0_0, k0_0, rfl⟩ := h0_0.shape
  obtain ⟨a0_1, n0_1, k0_1, rfl⟩ := h0_1.shape
  obtain ⟨a0_4, n0_4, k0_4, rfl⟩ := h0_4.shape
  obtain ⟨a0_5, n0_5, k0_5, rfl⟩ := h0_5.shape
  go_enter Try.func8, Try.ntmps8
  go_wp2_with fail
  refine (szStore_c _ _ _ _ _ _ _ _ _ _ (length_flPair _) _ _ _ (length_flJob _) _ _ _ _ _ _ _ (h0_0.ext (by repeat' (first | (with_reducible exact Ext.refl _) | (with_reducible assumption) | (with_reducible refine Ext.drewN ?_ _) | (with_reducible refine Ext.drew ?_) | (with_reducible refine Ext.alloc ?_ _) | (with_reducible refine Ext.setCell ?_ ?_ _) | (with_reducible refine Ext.setRow ?_ ?_ _) | (with_reducible exact Nat.le_refl _) | (with_reducible refine Ext.trans ?_ (by assumption)) | omega))) (h0_1.ext (by repeat' (first | (with_reducible exact Ext.refl _) | (with_reducible assumption) | (with_reducible refine Ext.drewN ?_ _) | (with_reducible refine Ext.drew ?_) | (with_reducible refine Ext.alloc ?_ _) | (with_reducible refine Ext.setCell ?_ ?_ _) | (with_reducible refine Ext.setRow ?_ ?_ _) | (with_reducible exact Nat.le_refl _) | (with_reducible refine Ext.trans ?_ (by assumption)) | omega))) (h0_4.ext (by repeat' (first | (with_reducible exact Ext.refl _) | (with_reducible assumption) | (with_reducible refine Ext.drewN ?_ _) | (with_reducible refine Ext.drew ?_) | (with_reducible refine Ext.alloc ?_ _) | (with_reducible refine Ext.setCell ?_ ?_ _) | (with_reducible refine Ext.setRow ?_ ?_ _) | (with_reducible exact Nat.le_refl _) | (with_reducible refine Ext.trans ?_ (by assumption)) | omega))) (h0_5.ext (by repeat' (first | (with_reducible exact Ext.refl _) | (with_reducible assumption) | (with_reducible refine Ext.drewN ?_ _) | (with_reducible refine Ext.drew ?_) | (with_reducible refine Ext.alloc ?_ _) | (with_reducible refine Ext.setCell ?_ ?_ _) | (with_reducible refine Ext.setRow ?_ ?_ _) | (with_reducible exact Nat.le_refl _) | (with_reducible refine Ext.trans ?_ (by assumption)) | omega))) (by omega) (by omega)).mono ?_
  rintro e w1 ⟨v1, rfl, hx1, hv1⟩
  have X1 : Ext w w1 := by repeat' (first | (with_reducible exact Ext.refl _) | (with_reducible assumption) | (with_reducible refine Ext.drewN ?_ _) | (with_reducible refine Ext.drew ?_) | (with_reducible refine Ext.alloc ?_ _) | (with_reducible refine Ext.setCell ?_ ?_ _) | (with_reducible refine Ext.setRow ?_ ?_ _) | (with_reducible exact Nat.le_refl _) | (with_reducible refine Ext.trans ?_ (by assumption)) | omega)
  have Ba0 : Blk w1 w.heap.size 64 #[.slice a0_0 n0_0 k0_0, .slice a0_1 n0_1 k0_1, .int .i64 c0_2, .int .i64 c0_3, .slice a0_4 n0_4 k0_4, .slice a0_5 n0_5 k0_5, .int .i64 c0_6, .int .i64 c0_7, .int .i64 c0_8, .int .i64 c0_9, .int .i64 c0_10, .int .i64 c0_11] := (Blk.new w 64 #[.slice a0_0 n0_0 k0_0, .slice a0_1 n0_1 k0_1, .int .i64 c0_2, .int .i64 c0_3, .slice a0_4 n0_4 k0_4, .slice a0_5 n0_5 k0_5, .int .i64 c0_6, .int .i64 c0_7, .int .i64 c0_8, .int .i64 c0_9, .int .i64 c0_10, .int .i64 c0_11]).ext (Ext.trans (Ext.refl _) hx1)
  have MBa0 := Ba0.lt
  have Z1 := X1.size
  have E1 : Ext w w1 := X1
  clear hx1
  have CBa0 := Ba0.cell; have LBa0 := Ba0.lt
  rcases hv1 with ⟨rfl, q1⟩ | ⟨rfl, q1⟩
  · go_wp2; go_ret; exact ⟨rfl, by repeat' (first | (with_reducible exact Ext.refl _) | (with_reducible assumption) | (with_reducible refine Ext.drewN ?_ _) | (with_reducible refine Ext.drew ?_) | (with_reducible refine Ext.alloc ?_ _) | (with_reducible refine Ext.setCell ?_ ?_ _) | (with_reducible refine Ext.setRow ?_ ?_ _) | (with_reducible exact Nat.le_refl _) | (with_reducible refine Ext.trans ?_ (by assumption)) | omega)⟩
  have q0_0 : rowsSize (nestInt64S l0_0) ≤ 1048576 := by omega
  have q0_1 : rowsSize (nestWrite l0_1) ≤ 1048576 := by omega
  have q0_4 : l0_4.length ≤ 1048576 := by omega
  have q0_5 : l0_5.length ≤ 1048576 := by omega
  go_wp2_with fail
  refine (toStore_c _ _ _ _ _ _ _ _ _ _ (length_flPair _) _ _ _ (length_flJob _) _ _ _ _ _ _ (h0_0.ext (E1.trans (by repeat' (first | (with_reducible exact Ext.refl _) | (with_reducible assumption) | (with_reducible refine Ext.drewN ?_ _) | (with_reducible refine Ext.drew ?_) | (with_reducible refine Ext.alloc ?_ _) | (with_reducible refine Ext.setCell ?_ ?_ _) | (with_reducible refine Ext.setRow ?_ ?_ _) | (with_reducible exact Nat.le_refl _) | (with_reducible refine Ext.trans ?_ (by assumption)) | omega)))) q0_0 (h0_1.ext (E1.trans (by repeat' (first | (with_reducible exact Ext.refl _) | (with_reducible assumption) | (with_reducible refine Ext.drewN ?_ _) | (with_reducible refine Ext.drew ?_) | (with_reducible refine Ext.alloc ?_ _) | (with_reducible refine Ext.setCell ?_ ?_ _) | (with_reducible refine Ext.setRow ?_ ?_ _) | (with_reducible exact Nat.le_refl _) | (with_reducible refine Ext.trans ?_ (by assumption)) | omega)))) q0_1 (h0_4.ext (E1.trans (by repeat' (first | (with_reducible exact Ext.refl _) | (with_reducible assumption) | (with_reducible refine Ext.drewN ?_ _) | (with_reducible refine Ext.drew ?_) | (with_reducible refine Ext.alloc ?_ _) | (with_reducible refine Ext.setCell ?_ ?_ _) | (with_reducible refine Ext.setRow ?_ ?_ _) | (with_reducible exact Nat.le_refl _) | (with_reducible refine Ext.trans ?_ (by assumption)) | omega)))) q0_4 (h0_5.ext (E1.trans (by repeat' (first | (with_reducible exact Ext.refl _) | (with_reducible assumption) | (with_reducible refine Ext.drewN ?_ _) | (with_reducible refine Ext.drew ?_) | (with_reducible refine Ext.alloc ?_ _) | (with_reducible refine Ext.setCell ?_ ?_ _) | (with_reducible refine Ext.setRow ?_ ?_ _) | (with_reducible exact Nat.le_refl _) | (with_reducible refine Ext.trans ?_ (by assumption)) | omega)))) q0_5).mono ?_
  rintro e w2 ⟨_, rfl, hx2, tu0_0, tu0_1, tu0_4, tu0_5, rfl, gu0_0, gu0_1, gu0_4, gu0_5⟩
  have X2 : Ext w1 w2 := by repeat' (first | (with_reducible exact Ext.refl _) | (with_reducible assumption) | (with_reducible refine Ext.drewN ?_ _) | (with_reducible refine Ext.drew ?_) | (with_reducible refine Ext.alloc ?_ _) | (with_reducible refine Ext.setCell ?_ ?_ _) | (with_reducible refine Ext.setRow ?_ ?_ _) | (with_reducible exact Nat.le_refl _) | (with_reducible refine Ext.trans ?_ (by assumption)) | omega)
  have Z2 := X2.size
  have E2 : Ext w w2 := E1.trans X2
  have Ba0 := Ba0.ext X2
  clear hx2
  clear CBa0 LBa0
  have CBa0 := Ba0.cell; have LBa0 := Ba0.lt
  obtain ⟨au0_0, nu0_0, ku0_0, rfl⟩ := gu0_0.shape
  (try have bu0_0 := gu0_0.foot); (try simp only [World.size_alloc] at bu0_0)
  obtain ⟨au0_1, nu0_1, ku0_1, rfl⟩ := gu0_1.shape
  (try have bu0_1 := gu0_1.foot); (try simp only [World.size_alloc] at bu0_1)
  obtain ⟨au0_4, nu0_4, ku0_4, rfl⟩ := gu0_4.shape
  (try have bu0_4 := gu0_4.foot); (try simp only [World.size_alloc] at bu0_4)
  obtain ⟨au0_5, nu0_5, ku0_5, rfl⟩ := gu0_5.shape
  (try have bu0_5 := gu0_5.foot); (try simp only [World.size_alloc] at bu0_5)
  go_wp2_with fail
  refine (sFetchOf_c _ _ _ _ _ _ _ _ _ _ _ _ _ _ _ _ _ ((gu0_0.nest).ext (by repeat' (first | (with_reducible exact Ext.refl _) | (with_reducible assumption) | (with_reducible refine Ext.drewN ?_ _) | (with_reducible refine Ext.drew ?_) | (with_reducible refine Ext.alloc ?_ _) | (with_reducible refine Ext.setCell ?_ ?_ _) | (with_reducible refine Ext.setRow ?_ ?_ _) | (with_reducible exact Nat.le_refl _) | (with_reducible refine Ext.trans ?_ (by assumption)) | omega))) ((gu0_1.nest).ext (by repeat' (first | (with_reducible exact Ext.refl _) | (with_reducible assumption) | (with_reducible refine Ext.drewN ?_ _) | (with_reducible refine Ext.drew ?_) | (with_reducible refine Ext.alloc ?_ _) | (with_reducible refine Ext.setCell ?_ ?_ _) | (with_reducible refine Ext.setRow ?_ ?_ _) | (with_reducible exact Nat.le_refl _) | (with_reducible refine Ext.trans ?_ (by assumption)) | omega))) ((gu0_4.ints).ext (by repeat' (first | (with_reducible exact Ext.refl _) | (with_reducible assumption) | (with_reducible refine Ext.drewN ?_ _) | (with_reducible refine Ext.drew ?_) | (with_reducible refine Ext.alloc ?_ _) | (with_reducible refine Ext.setCell ?_ ?_ _) | (with_reducible refine Ext.setRow ?_ ?_ _) | (with_reducible exact Nat.le_refl _) | (with_reducible refine Ext.trans ?_ (by assumption)) | omega))) ((gu0_5.ints).ext (by repeat' (first | (with_reducible exact Ext.refl _) | (with_reducible assumption) | (with_reducible refine Ext.drewN ?_ _) | (with_reducible refine Ext.drew ?_) | (with_reducible refine Ext.alloc ?_ _) | (with_reducible refine Ext.setCell ?_ ?_ _) | (with_reducible refine Ext.setRow ?_ ?_ _) | (with_reducible exact Nat.le_refl _) | (with_reducible refine Ext.trans ?_ (by assumption)) | omega)))).mono ?_
  rintro e w3 ⟨rfl, hx3⟩
  have X3 : Ext w2 w3 := by repeat' (first | (with_reducible exact Ext.refl _) | (with_reducible assumption) | (with_reducible refine Ext.drewN ?_ _) | (with_reducible refine Ext.drew ?_) | (with_reducible refine Ext.alloc ?_ _) | (with_reducible refine Ext.setCell ?_ ?_ _) | (with_reducible refine Ext.setRow ?_ ?_ _) | (with_reducible exact Nat.le_refl _) | (with_reducible refine Ext.trans ?_ (by assumption)) | omega)
  have Z3 := X3.size
  have E3 : Ext w w3 := E2.trans X3
  have Ba0 := Ba0.ext X3
  have gu0_0 := gu0_0.ext X3
  have gu0_1 := gu0_1.ext X3
  have gu0_4 := gu0_4.ext X3
  have gu0_5 := gu0_5.ext X3
  clear hx3
  clear CBa0 LBa0
  have CBa0 := Ba0.cell; have LBa0 := Ba0.lt
  go_wp2_with fail
  refine (toStore_c _ _ _ _ _ _ _ _ _ _ (length_flPair _) _ _ _ (length_flJob _) _ _ _ _ _ _ (h0_0.ext (E3.trans (by repeat' (first | (with_reducible exact Ext.refl _) | (with_reducible assumption) | (with_reducible refine Ext.drewN ?_ _) | (with_reducible refine Ext.drew ?_) | (with_reducible refine Ext.alloc ?_ _) | (with_reducible refine Ext.setCell ?_ ?_ _) | (with_reducible refine Ext.setRow ?_ ?_ _) | (with_reducible exact Nat.le_refl _) | (with_reducible refine Ext.trans ?_ (by assumption)) | omega)))) q0_0 (h0_1.ext (E3.trans (by repeat' (first | (with_reducible exact Ext.refl _) | (with_reducible assumption) | (with_reducible refine Ext.drewN ?_ _) | (with_reducible refine Ext.drew ?_) | (with_reducible refine Ext.alloc ?_ _) | (with_reducible refine Ext.setCell ?_ ?_ _) | (with_reducible refine Ext.setRow ?_ ?_ _) | (with_reducible exact Nat.le_refl _) | (with_reducible refine Ext.trans ?_ (by assumption)) | omega)))) q0_1 (h0_4.ext (E3.trans (by repeat' (first | (with_reducible exact Ext.refl _) | (with_reducible assumption) | (with_reducible refine Ext.drewN ?_ _) | (with_reducible refine Ext.drew ?_) | (with_reducible refine Ext.alloc ?_ _) | (with_reducible refine Ext.setCell ?_ ?_ _) | (with_reducible refine Ext.setRow ?_ ?_ _) | (with_reducible exact Nat.le_refl _) | (with_reducible refine Ext.trans ?_ (by assumption)) | omega)))) q0_4 (h0_5.ext (E3.trans (by repeat' (first | (with_reducible exact Ext.refl _) | (with_reducible assumption) | (with_reducible refine Ext.drewN ?_ _) | (with_reducible refine Ext.drew ?_) | (with_reducible refine Ext.alloc ?_ _) | (with_reducible refine Ext.setCell ?_ ?_ _) | (with_reducible refine Ext.setRow ?_ ?_ _) | (with_reducible exact Nat.le_refl _) | (with_reducible refine Ext.trans ?_ (by assumption)) | omega)))) q0_5).mono ?_
  rintro e w4 ⟨_, rfl, hx4, tx0_0, tx0_1, tx0_4, tx0_5, rfl, gx0_0, gx0_1, gx0_4, gx0_5⟩
  have X4 : Ext w3 w4 := by repeat' (first | (with_reducible exact Ext.refl _) | (with_reducible assumption) | (with_reducible refine Ext.drewN ?_ _) | (with_reducible refine Ext.drew ?_) | (with_reducible refine Ext.alloc ?_ _) | (with_reducible refine Ext.setCell ?_ ?_ _) | (with_reducible refine Ext.setRow ?_ ?_ _) | (with_reducible exact Nat.le_refl _) | (with_reducible refine Ext.trans ?_ (by assumption)) | omega)
  have Z4 := X4.size
  have E4 : Ext w w4 := E3.trans X4
  have Ba0 := Ba0.ext X4
  clear hx4
  clear CBa0 LBa0
  have CBa0 := Ba0.cell; have LBa0 := Ba0.lt
  obtain ⟨ax0_0, nx0_0, kx0_0, rfl⟩ := gx0_0.shape
  (try have bx0_0 := gx0_0.foot); (try simp only [World.size_alloc] at bx0_0)
  obtain ⟨ax0_1, nx0_1, kx0_1, rfl⟩ := gx0_1.shape
  (try have bx0_1 := gx0_1.foot); (try simp only [World.size_alloc] at bx0_1)
  obtain ⟨ax0_4, nx0_4, kx0_4, rfl⟩ := gx0_4.shape
  (try have bx0_4 := gx0_4.foot); (try simp only [World.size_alloc] at bx0_4)
  obtain ⟨ax0_5, nx0_5, kx0_5, rfl⟩ := gx0_5.shape
  (try have bx0_5 := gx0_5.foot); (try simp only [World.size_alloc] at bx0_5)
  go_wp2_with fail
  refine (fetchOf_c _ _ _ _ _ _ _ _ _ _ _ _ _ _ _ _ _ ((gx0_0.nest).ext (by repeat' (first | (with_reducible exact Ext.refl _) | (with_reducible assumption) | (with_reducible refine Ext.drewN ?_ _) | (with_reducible refine Ext.drew ?_) | (with_reducible refine Ext.alloc ?_ _) | (with_reducible refine Ext.setCell ?_ ?_ _) | (with_reducible refine Ext.setRow ?_ ?_ _) | (with_reducible exact Nat.le_refl _) | (with_reducible refine Ext.trans ?_ (by assumption)) | omega))) ((gx0_1.nest).ext (by repeat' (first | (with_reducible exact Ext.refl _) | (with_reducible assumption) | (with_reducible refine Ext.drewN ?_ _) | (with_reducible refine Ext.drew ?_) | (with_reducible refine Ext.alloc ?_ _) | (with_reducible refine Ext.setCell ?_ ?_ _) | (with_reducible refine Ext.setRow ?_ ?_ _) | (with_reducible exact Nat.le_refl _) | (with_reducible refine Ext.trans ?_ (by assumption)) | omega))) ((gx0_4.ints).ext (by repeat' (first | (with_reducible exact Ext.refl _) | (with_reducible assumption) | (with_reducible refine Ext.drewN ?_ _) | (with_reducible refine Ext.drew ?_) | (with_reducible refine Ext.alloc ?_ _) | (with_reducible refine Ext.setCell ?_ ?_ _) | (with_reducible refine Ext.setRow ?_ ?_ _) | (with_reducible exact Nat.le_refl _) | (with_reducible refine Ext.trans ?_ (by assumption)) | omega))) ((gx0_5.ints).ext (by repeat' (first | (with_reducible exact Ext.refl _) | (with_reducible assumption) | (with_reducible refine Ext.drewN ?_ _) | (with_reducible refine Ext.drew ?_) | (with_reducible refine Ext.alloc ?_ _) | (with_reducible refine Ext.setCell ?_ ?_ _) | (with_reducible refine Ext.setRow ?_ ?_ _) | (with_reducible exact Nat.le_refl _) | (with_reducible refine Ext.trans ?_ (by assumption)) | omega)))).mono ?_
  rintro e w5 ⟨rfl, hx5⟩
  have X5 : Ext w4 w5 := by repeat' (first | (with_reducible exact Ext.refl _) | (with_reducible assumption) | (with_reducible refine Ext.drewN ?_ _) | (with_reducible refine Ext.drew ?_) | (with_reducible refine Ext.alloc ?_ _) | (with_reducible refine Ext.setCell ?_ ?_ _) | (with_reducible refine Ext.setRow ?_ ?_ _) | (with_reducible exact Nat.le_refl _) | (with_reducible refine Ext.trans ?_ (by assumption)) | omega)
  have Bx0 : Blk w5 w4.heap.size 55 #[.slice ax0_0 nx0_0 kx0_0, .slice ax0_1 nx0_1 kx0_1, .int .i64 c0_2, .int .i64 c0_3, .slice ax0_4 nx0_4 kx0_4, .slice ax0_5 nx0_5 kx0_5, .int .i64 c0_6, .int .i64 c0_7, .int .i64 c0_8, .int .i64 c0_9, .int .i64 c0_10, .int .i64 c0_11] := (Blk.new w4 55 #[.slice ax0_0 nx0_0 kx0_0, .slice ax0_1 nx0_1 kx0_1, .int .i64 c0_2, .int .i64 c0_3, .slice ax0_4 nx0_4 kx0_4, .slice ax0_5 nx0_5 kx0_5, .int .i64 c0_6, .int .i64 c0_7, .int .i64 c0_8, .int .i64 c0_9, .int .i64 c0_10, .int .i64 c0_11]).ext (Ext.trans (Ext.refl _) hx5)
  have MBx0 := Bx0.lt
  have Z5 := X5.size
  have E5 : Ext w w5 := E4.trans X5
  have Ba0 := Ba0.ext X5
  have gx0_0 := gx0_0.ext X5
  have gx0_1 := gx0_1.ext X5
  have gx0_4 := gx0_4.ext X5
  have gx0_5 := gx0_5.ext X5
  clear hx5
  clear CBa0 LBa0
  have CBa0 := Ba0.cell; have LBa0 := Ba0.lt
  have CBx0 := Bx0.cell; have LBx0 := Bx0.lt
  as_aux_lemma =>
    go_wp2_with fail
    have p00 : ∀ w', Ext w5 w' → w'.cell? ⟨_, 0, none⟩ = some (.slice a0_0 n0_0 k0_0) := fun w' hw => (Ba0.ext hw).cell 0
    have p01 : ∀ w', Ext w5 w' → w'.cell? ⟨_, 1, none⟩ = some (.slice a0_1 n0_1 k0_1) := fun w' hw => (Ba0.ext hw).cell 1
    have p02 : ∀ w', Ext w5 w' → w'.cell? ⟨_, 2, none⟩ = some (.int .i64 c0_2) := fun w' hw => (Ba0.ext hw).cell 2
    have p03 : ∀ w', Ext w5 w' → w'.cell? ⟨_, 3, none⟩ = some (.int .i64 c0_3) := fun w' hw => (Ba0.ext hw).cell 3
    have p04 : ∀ w', Ext w5 w' → w'.cell? ⟨_, 4, none⟩ = some (.slice a0_4 n0_4 k0_4) := fun w' hw => (Ba0.ext hw).cell 4
    have p05 : ∀ w', Ext w5 w' → w'.cell? ⟨_, 5, none⟩ = some (.slice a0_5 n0_5 k0_5) := fun w' hw => (Ba0.ext hw).cell 5
    have p06 : ∀ w', Ext w5 w' → w'.cell? ⟨_, 6, none⟩ = some (.int .i64 c0_6) := fun w' hw => (Ba0.ext hw).cell 6
    have p07 : ∀ w', Ext w5 w' → w'.cell? ⟨_, 7, none⟩ = some (.int .i64 c0_7) := fun w' hw => (Ba0.ext hw).cell 7
    have p08 : ∀ w', Ext w5 w' → w'.cell? ⟨_, 8, none⟩ = some (.int .i64 c0_8) := fun w' hw => (Ba0.ext hw).cell 8
    have p09 : ∀ w', Ext w5 w' → w'.cell? ⟨_, 9, none⟩ = some (.int .i64 c0_9) := fun w' hw => (Ba0.ext hw).cell 9
    have p010 : ∀ w', Ext w5 w' → w'.cell? ⟨_, 10, none⟩ = some (.int .i64 c0_10) := fun w' hw => (Ba0.ext hw).cell 10
    have p011 : ∀ w', Ext w5 w' → w'.cell? ⟨_, 11, none⟩ = some (.int .i64 c0_11) := fun w' hw => (Ba0.ext hw).cell 11
    have q00 : ∀ w', Ext w5 w' → w'.cell? ⟨_, 0, none⟩ = some (.slice ax0_0 nx0_0 kx0_0) := fun w' hw => (Bx0.ext hw).cell 0
    have q01 : ∀ w', Ext w5 w' → w'.cell? ⟨_, 1, none⟩ = some (.slice ax0_1 nx0_1 kx0_1) := fun w' hw => (Bx0.ext hw).cell 1
    have q02 : ∀ w', Ext w5 w' → w'.cell? ⟨_, 2, none⟩ = some (.int .i64 c0_2) := fun w' hw => (Bx0.ext hw).cell 2
    have q03 : ∀ w', Ext w5 w' → w'.cell? ⟨_, 3, none⟩ = some (.int .i64 c0_3) := fun w' hw => (Bx0.ext hw).cell 3
    have q04 : ∀ w', Ext w5 w' → w'.cell? ⟨_, 4, none⟩ = some (.slice ax0_4 nx0_4 kx0_4) := fun w' hw => (Bx0.ext hw).cell 4
    have q05 : ∀ w', Ext w5 w' → w'.cell? ⟨_, 5, none⟩ = some (.slice ax0_5 nx0_5 kx0_5) := fun w' hw => (Bx0.ext hw).cell 5
    have q06 : ∀ w', Ext w5 w' → w'.cell? ⟨_, 6, none⟩ = some (.int .i64 c0_6) := fun w' hw => (Bx0.ext hw).cell 6
    have q07 : ∀ w', Ext w5 w' → w'.cell? ⟨_, 7, none⟩ = some (.int .i64 c0_7) := fun w' hw => (Bx0.ext hw).cell 7
    have q08 : ∀ w', Ext w5 w' → w'.cell? ⟨_, 8, none⟩ = some (.int .i64 c0_8) := fun w' hw => (Bx0.ext hw).cell 8
    have q09 : ∀ w', Ext w5 w' → w'.cell? ⟨_, 9, none⟩ = some (.int .i64 c0_9) := fun w' hw => (Bx0.ext hw).cell 9
    have q010 : ∀ w', Ext w5 w' → w'.cell? ⟨_, 10, none⟩ = some (.int .i64 c0_10) := fun w' hw => (Bx0.ext hw).cell 10
    have q011 : ∀ w', Ext w5 w' → w'.cell? ⟨_, 11, none⟩ = some (.int .i64 c0_11) := fun w' hw => (Bx0.ext hw).cell 11
    clear CBa0 LBa0 CBx0 LBx0
    go_region_held3 (fun w' => Ext w5 w') (first | exact Ext.drew (Ext.refl _) | exact Ext.trans (by assumption) hx6 | exact Ext.trans (by assumption) hx7) (first | (go_at_call 30; refine (toStore_c _ _ _ _ _ _ _ _ _ _ (length_flPair _) _ _ _ (length_flJob _) _ _ _ _ _ _ (h0_0.ext (Ext.trans E5 (by assumption))) q0_0 (h0_1.ext (Ext.trans E5 (by assumption))) q0_1 (h0_4.ext (Ext.trans E5 (by assumption))) q0_4 (h0_5.ext (Ext.trans E5 (by assumption))) q0_5).mono ?_; rintro e w6 ⟨_, rfl, hx6, tz0_0, tz0_1, tz0_4, tz0_5, rfl, gz0_0, gz0_1, gz0_4, gz0_5⟩; obtain ⟨az0_0, nz0_0, kz0_0, rfl⟩ := gz0_0.shape; obtain ⟨az0_1, nz0_1, kz0_1, rfl⟩ := gz0_1.shape; obtain ⟨az0_4, nz0_4, kz0_4, rfl⟩ := gz0_4.shape; obtain ⟨az0_5, nz0_5, kz0_5, rfl⟩ := gz0_5.shape) | (go_at_call 21; refine (eqStore_c _ _ _ _ _ _ _ _ _ _ _ _ _ _ _ _ _ _ _ _ _ ((gx0_0.nest).ext (by assumption)) (gz0_0.nest) ((gx0_1.nest).ext (by assumption)) (gz0_1.nest) ((gx0_4.ints).ext (by assumption)) (gz0_4.ints) ((gx0_5.ints).ext (by assumption)) (gz0_5.ints)).mono ?_; rintro e w7 ⟨rfl, hx7⟩))
    have X7 : Ext w5 w7 := by assumption
    clear p00 p01 p02 p03 p04 p05 p06 p07 p08 p09 p010 p011 q00 q01 q02 q03 q04 q05 q06 q07 q08 q09 q010 q011
    clear hx7
    have Z7 := X7.size; have E7 : Ext w w7 := E5.trans X7
    have Ba0 := Ba0.ext X7
    have gx0_0 := gx0_0.ext X7
    have gx0_1 := gx0_1.ext X7
    have gx0_4 := gx0_4.ext X7
    have gx0_5 := gx0_5.ext X7
    have Bx0 := Bx0.ext X7
    have CBa0 := Ba0.cell; have LBa0 := Ba0.lt
    have CBx0 := Bx0.cell; have LBx0 := Bx0.lt
    go_wp2
    go_ret
    exact ⟨rfl, E7⟩
end Go.Proofs.Ytghfklophkekjaa
