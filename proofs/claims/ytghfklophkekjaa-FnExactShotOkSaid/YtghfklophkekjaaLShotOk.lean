/- The statement's walk: FnExactShotOk. -/
import Derived.Test.YtghfklophkekjaaP6
import Derived.Test.YtghfklophkekjaaHelpG
namespace Go.Proofs.Ytghfklophkekjaa
open Go.RowKit Go.G8

set_option maxHeartbeats 4000000 in
set_option maxRecDepth 100000 in
theorem law_ShotOk (w : World) (c0_0 : Int) (c0_1 : Int) (c0_2 : Int) (s0_3 : Value) (l0_3 : List DPair) (s0_4 : Value) (l0_4 : List DJob) (c0_5 : Int) (c0_6 : Int) (c0_7 : Int) (h0_3 : Ints 2 w s0_3 (flPair l0_3)) (h0_4 : Ints 5 w s0_4 (flJob l0_4)) : Calls Try.prog 4 #[.agg #[.int .i64 c0_0, .int .i64 c0_1, .int .i64 c0_2, s0_3, s0_4, .int .i64 c0_5, .int .i64 c0_6, .int .i64 c0_7]] w (RetV w (.bool true)) := by
  obtain ⟨a0_3, n0_3, k0_3, rfl⟩ := h0_3.shape
  obtain ⟨a0_4, n0_4, k0_4, rfl⟩ := h0_4.shape
  go_enter Try.func4, Try.ntmps4
  go_wp2_with fail
  refine (szShot_c _ _ _ _ _ _ _ (length_flPair _) _ _ _ (length_flJob _) _ _ _ _ (h0_3.ext (by repeat' (first | (with_reducible exact Ext.refl _) | (with_reducible assumption) | (with_reducible refine Ext.drewN ?_ _) | (with_reducible refine Ext.drew ?_) | (with_reducible refine Ext.alloc ?_ _) | (with_reducible refine Ext.setCell ?_ ?_ _) | (with_reducible refine Ext.setRow ?_ ?_ _) | (with_reducible exact Nat.le_refl _) | (with_reducible refine Ext.trans ?_ (by assumption)) | omega))) (h0_4.ext (by repeat' (first | (with_reducible exact Ext.refl _) | (with_reducible assumption) | (with_reducible refine Ext.drewN ?_ _) | (with_reducible refine Ext.drew ?_) | (with_reducible refine Ext.alloc ?_ _) | (with_reducible refine Ext.setCell ?_ ?_ _) | (with_reducible refine Ext.setRow ?_ ?_ _) | (with_reducible exact Nat.le_refl _) | (with_reducible refine Ext.trans ?_ (by assumption)) | omega))) (by omega) (by omega)).mono ?_
  rintro e w1 ⟨v1, rfl, hx1, hv1⟩
  have X1 : Ext w w1 := by repeat' (first | (with_reducible exact Ext.refl _) | (with_reducible assumption) | (with_reducible refine Ext.drewN ?_ _) | (with_reducible refine Ext.drew ?_) | (with_reducible refine Ext.alloc ?_ _) | (with_reducible refine Ext.setCell ?_ ?_ _) | (with_reducible refine Ext.setRow ?_ ?_ _) | (with_reducible exact Nat.le_refl _) | (with_reducible refine Ext.trans ?_ (by assumption)) | omega)
  have Ba0 : Blk w1 w.heap.size 41 #[.int .i64 c0_0, .int .i64 c0_1, .int .i64 c0_2, .slice a0_3 n0_3 k0_3, .slice a0_4 n0_4 k0_4, .int .i64 c0_5, .int .i64 c0_6, .int .i64 c0_7] := (Blk.new w 41 #[.int .i64 c0_0, .int .i64 c0_1, .int .i64 c0_2, .slice a0_3 n0_3 k0_3, .slice a0_4 n0_4 k0_4, .int .i64 c0_5, .int .i64 c0_6, .int .i64 c0_7]).ext (Ext.trans (Ext.refl _) hx1)
  have MBa0 := Ba0.lt
  have Z1 := X1.size
  have E1 : Ext w w1 := X1
  clear hx1
  have CBa0 := Ba0.cell; have LBa0 := Ba0.lt
  rcases hv1 with ⟨rfl, q1⟩ | ⟨rfl, q1⟩
  · go_wp2; go_ret; exact ⟨rfl, by repeat' (first | (with_reducible exact Ext.refl _) | (with_reducible assumption) | (with_reducible refine Ext.drewN ?_ _) | (with_reducible refine Ext.drew ?_) | (with_reducible refine Ext.alloc ?_ _) | (with_reducible refine Ext.setCell ?_ ?_ _) | (with_reducible refine Ext.setRow ?_ ?_ _) | (with_reducible exact Nat.le_refl _) | (with_reducible refine Ext.trans ?_ (by assumption)) | omega)⟩
  have q0_3 : l0_3.length ≤ 1048576 := by omega
  have q0_4 : l0_4.length ≤ 1048576 := by omega
  go_wp2_with fail
  refine (toShot_c _ _ _ _ _ _ _ (length_flPair _) _ _ _ (length_flJob _) _ _ _ (h0_3.ext (E1.trans (by repeat' (first | (with_reducible exact Ext.refl _) | (with_reducible assumption) | (with_reducible refine Ext.drewN ?_ _) | (with_reducible refine Ext.drew ?_) | (with_reducible refine Ext.alloc ?_ _) | (with_reducible refine Ext.setCell ?_ ?_ _) | (with_reducible refine Ext.setRow ?_ ?_ _) | (with_reducible exact Nat.le_refl _) | (with_reducible refine Ext.trans ?_ (by assumption)) | omega)))) q0_3 (h0_4.ext (E1.trans (by repeat' (first | (with_reducible exact Ext.refl _) | (with_reducible assumption) | (with_reducible refine Ext.drewN ?_ _) | (with_reducible refine Ext.drew ?_) | (with_reducible refine Ext.alloc ?_ _) | (with_reducible refine Ext.setCell ?_ ?_ _) | (with_reducible refine Ext.setRow ?_ ?_ _) | (with_reducible exact Nat.le_refl _) | (with_reducible refine Ext.trans ?_ (by assumption)) | omega)))) q0_4).mono ?_
  rintro e w2 ⟨_, rfl, hx2, tu0_3, tu0_4, rfl, gu0_3, gu0_4⟩
  have X2 : Ext w1 w2 := by repeat' (first | (with_reducible exact Ext.refl _) | (with_reducible assumption) | (with_reducible refine Ext.drewN ?_ _) | (with_reducible refine Ext.drew ?_) | (with_reducible refine Ext.alloc ?_ _) | (with_reducible refine Ext.setCell ?_ ?_ _) | (with_reducible refine Ext.setRow ?_ ?_ _) | (with_reducible exact Nat.le_refl _) | (with_reducible refine Ext.trans ?_ (by assumption)) | omega)
  have Z2 := X2.size
  have E2 : Ext w w2 := E1.trans X2
  have Ba0 := Ba0.ext X2
  clear hx2
  clear CBa0 LBa0
  have CBa0 := Ba0.cell; have LBa0 := Ba0.lt
  obtain ⟨au0_3, nu0_3, ku0_3, rfl⟩ := gu0_3.shape
  (try have bu0_3 := gu0_3.foot); (try simp only [World.size_alloc] at bu0_3)
  obtain ⟨au0_4, nu0_4, ku0_4, rfl⟩ := gu0_4.shape
  (try have bu0_4 := gu0_4.foot); (try simp only [World.size_alloc] at bu0_4)
  go_wp2_with fail
  refine (sShotOk_c _ _ _ _ _ _ _ _ _ _ _ ((gu0_3.ints).ext (by repeat' (first | (with_reducible exact Ext.refl _) | (with_reducible assumption) | (with_reducible refine Ext.drewN ?_ _) | (with_reducible refine Ext.drew ?_) | (with_reducible refine Ext.alloc ?_ _) | (with_reducible refine Ext.setCell ?_ ?_ _) | (with_reducible refine Ext.setRow ?_ ?_ _) | (with_reducible exact Nat.le_refl _) | (with_reducible refine Ext.trans ?_ (by assumption)) | omega))) ((gu0_4.ints).ext (by repeat' (first | (with_reducible exact Ext.refl _) | (with_reducible assumption) | (with_reducible refine Ext.drewN ?_ _) | (with_reducible refine Ext.drew ?_) | (with_reducible refine Ext.alloc ?_ _) | (with_reducible refine Ext.setCell ?_ ?_ _) | (with_reducible refine Ext.setRow ?_ ?_ _) | (with_reducible exact Nat.le_refl _) | (with_reducible refine Ext.trans ?_ (by assumption)) | omega)))).mono ?_
  rintro e w3 ⟨rfl, hx3⟩
  have X3 : Ext w2 w3 := by repeat' (first | (with_reducible exact Ext.refl _) | (with_reducible assumption) | (with_reducible refine Ext.drewN ?_ _) | (with_reducible refine Ext.drew ?_) | (with_reducible refine Ext.alloc ?_ _) | (with_reducible refine Ext.setCell ?_ ?_ _) | (with_reducible refine Ext.setRow ?_ ?_ _) | (with_reducible exact Nat.le_refl _) | (with_reducible refine Ext.trans ?_ (by assumption)) | omega)
  have Z3 := X3.size
  have E3 : Ext w w3 := E2.trans X3
  have Ba0 := Ba0.ext X3
  have gu0_3 := gu0_3.ext X3
  have gu0_4 := gu0_4.ext X3
  clear hx3
  clear CBa0 LBa0
  have CBa0 := Ba0.cell; have LBa0 := Ba0.lt
  go_wp2_with fail
  refine (toShot_c _ _ _ _ _ _ _ (length_flPair _) _ _ _ (length_flJob _) _ _ _ (h0_3.ext (E3.trans (by repeat' (first | (with_reducible exact Ext.refl _) | (with_reducible assumption) | (with_reducible refine Ext.drewN ?_ _) | (with_reducible refine Ext.drew ?_) | (with_reducible refine Ext.alloc ?_ _) | (with_reducible refine Ext.setCell ?_ ?_ _) | (with_reducible refine Ext.setRow ?_ ?_ _) | (with_reducible exact Nat.le_refl _) | (with_reducible refine Ext.trans ?_ (by assumption)) | omega)))) q0_3 (h0_4.ext (E3.trans (by repeat' (first | (with_reducible exact Ext.refl _) | (with_reducible assumption) | (with_reducible refine Ext.drewN ?_ _) | (with_reducible refine Ext.drew ?_) | (with_reducible refine Ext.alloc ?_ _) | (with_reducible refine Ext.setCell ?_ ?_ _) | (with_reducible refine Ext.setRow ?_ ?_ _) | (with_reducible exact Nat.le_refl _) | (with_reducible refine Ext.trans ?_ (by assumption)) | omega)))) q0_4).mono ?_
  rintro e w4 ⟨_, rfl, hx4, tx0_3, tx0_4, rfl, gx0_3, gx0_4⟩
  have X4 : Ext w3 w4 := by repeat' (first | (with_reducible exact Ext.refl _) | (with_reducible assumption) | (with_reducible refine Ext.drewN ?_ _) | (with_reducible refine Ext.drew ?_) | (with_reducible refine Ext.alloc ?_ _) | (with_reducible refine Ext.setCell ?_ ?_ _) | (with_reducible refine Ext.setRow ?_ ?_ _) | (with_reducible exact Nat.le_refl _) | (with_reducible refine Ext.trans ?_ (by assumption)) | omega)
  have Z4 := X4.size
  have E4 : Ext w w4 := E3.trans X4
  have Ba0 := Ba0.ext X4
  clear hx4
  clear CBa0 LBa0
  have CBa0 := Ba0.cell; have LBa0 := Ba0.lt
  obtain ⟨ax0_3, nx0_3, kx0_3, rfl⟩ := gx0_3.shape
  (try have bx0_3 := gx0_3.foot); (try simp only [World.size_alloc] at bx0_3)
  obtain ⟨ax0_4, nx0_4, kx0_4, rfl⟩ := gx0_4.shape
  (try have bx0_4 := gx0_4.foot); (try simp only [World.size_alloc] at bx0_4)
  go_wp2_with fail
  refine (shotOk_c _ _ _ _ _ _ _ _ _ _ _ ((gx0_3.ints).ext (by repeat' (first | (with_reducible exact Ext.refl _) | (with_reducible assumption) | (with_reducible refine Ext.drewN ?_ _) | (with_reducible refine Ext.drew ?_) | (with_reducible refine Ext.alloc ?_ _) | (with_reducible refine Ext.setCell ?_ ?_ _) | (with_reducible refine Ext.setRow ?_ ?_ _) | (with_reducible exact Nat.le_refl _) | (with_reducible refine Ext.trans ?_ (by assumption)) | omega))) ((gx0_4.ints).ext (by repeat' (first | (with_reducible exact Ext.refl _) | (with_reducible assumption) | (with_reducible refine Ext.drewN ?_ _) | (with_reducible refine Ext.drew ?_) | (with_reducible refine Ext.alloc ?_ _) | (with_reducible refine Ext.setCell ?_ ?_ _) | (with_reducible refine Ext.setRow ?_ ?_ _) | (with_reducible exact Nat.le_refl _) | (with_reducible refine Ext.trans ?_ (by assumption)) | omega)))).mono ?_
  rintro e w5 ⟨rfl, hx5⟩
  have X5 : Ext w4 w5 := by repeat' (first | (with_reducible exact Ext.refl _) | (with_reducible assumption) | (with_reducible refine Ext.drewN ?_ _) | (with_reducible refine Ext.drew ?_) | (with_reducible refine Ext.alloc ?_ _) | (with_reducible refine Ext.setCell ?_ ?_ _) | (with_reducible refine Ext.setRow ?_ ?_ _) | (with_reducible exact Nat.le_refl _) | (with_reducible refine Ext.trans ?_ (by assumption)) | omega)
  have Bx0 : Blk w5 w4.heap.size 50 #[.int .i64 c0_0, .int .i64 c0_1, .int .i64 c0_2, .slice ax0_3 nx0_3 kx0_3, .slice ax0_4 nx0_4 kx0_4, .int .i64 c0_5, .int .i64 c0_6, .int .i64 c0_7] := (Blk.new w4 50 #[.int .i64 c0_0, .int .i64 c0_1, .int .i64 c0_2, .slice ax0_3 nx0_3 kx0_3, .slice ax0_4 nx0_4 kx0_4, .int .i64 c0_5, .int .i64 c0_6, .int .i64 c0_7]).ext (Ext.trans (Ext.refl _) hx5)
  have MBx0 := Bx0.lt
  have Z5 := X5.size
  have E5 : Ext w w5 := E4.trans X5
  have Ba0 := Ba0.ext X5
  have gx0_3 := gx0_3.ext X5
  have gx0_4 := gx0_4.ext X5
  clear hx5
  clear CBa0 LBa0
  have CBa0 := Ba0.cell; have LBa0 := Ba0.lt
  have CBx0 := Bx0.cell; have LBx0 := Bx0.lt
  as_aux_lemma =>
    go_wp2_with fail
    have p00 : ∀ w', Ext w5 w' → w'.cell? ⟨_, 0, none⟩ = some (.int .i64 c0_0) := fun w' hw => (Ba0.ext hw).cell 0
    have p01 : ∀ w', Ext w5 w' → w'.cell? ⟨_, 1, none⟩ = some (.int .i64 c0_1) := fun w' hw => (Ba0.ext hw).cell 1
    have p02 : ∀ w', Ext w5 w' → w'.cell? ⟨_, 2, none⟩ = some (.int .i64 c0_2) := fun w' hw => (Ba0.ext hw).cell 2
    have p03 : ∀ w', Ext w5 w' → w'.cell? ⟨_, 3, none⟩ = some (.slice a0_3 n0_3 k0_3) := fun w' hw => (Ba0.ext hw).cell 3
    have p04 : ∀ w', Ext w5 w' → w'.cell? ⟨_, 4, none⟩ = some (.slice a0_4 n0_4 k0_4) := fun w' hw => (Ba0.ext hw).cell 4
    have p05 : ∀ w', Ext w5 w' → w'.cell? ⟨_, 5, none⟩ = some (.int .i64 c0_5) := fun w' hw => (Ba0.ext hw).cell 5
    have p06 : ∀ w', Ext w5 w' → w'.cell? ⟨_, 6, none⟩ = some (.int .i64 c0_6) := fun w' hw => (Ba0.ext hw).cell 6
    have p07 : ∀ w', Ext w5 w' → w'.cell? ⟨_, 7, none⟩ = some (.int .i64 c0_7) := fun w' hw => (Ba0.ext hw).cell 7
    have q00 : ∀ w', Ext w5 w' → w'.cell? ⟨_, 0, none⟩ = some (.int .i64 c0_0) := fun w' hw => (Bx0.ext hw).cell 0
    have q01 : ∀ w', Ext w5 w' → w'.cell? ⟨_, 1, none⟩ = some (.int .i64 c0_1) := fun w' hw => (Bx0.ext hw).cell 1
    have q02 : ∀ w', Ext w5 w' → w'.cell? ⟨_, 2, none⟩ = some (.int .i64 c0_2) := fun w' hw => (Bx0.ext hw).cell 2
    have q03 : ∀ w', Ext w5 w' → w'.cell? ⟨_, 3, none⟩ = some (.slice ax0_3 nx0_3 kx0_3) := fun w' hw => (Bx0.ext hw).cell 3
    have q04 : ∀ w', Ext w5 w' → w'.cell? ⟨_, 4, none⟩ = some (.slice ax0_4 nx0_4 kx0_4) := fun w' hw => (Bx0.ext hw).cell 4
    have q05 : ∀ w', Ext w5 w' → w'.cell? ⟨_, 5, none⟩ = some (.int .i64 c0_5) := fun w' hw => (Bx0.ext hw).cell 5
    have q06 : ∀ w', Ext w5 w' → w'.cell? ⟨_, 6, none⟩ = some (.int .i64 c0_6) := fun w' hw => (Bx0.ext hw).cell 6
    have q07 : ∀ w', Ext w5 w' → w'.cell? ⟨_, 7, none⟩ = some (.int .i64 c0_7) := fun w' hw => (Bx0.ext hw).cell 7
    clear CBa0 LBa0 CBx0 LBx0
    go_region_held3 (fun w' => Ext w5 w') (first | exact Ext.drew (Ext.refl _) | exact Ext.trans (by assumption) hx6 | exact Ext.trans (by assumption) hx7) (first | (go_at_call 16; refine (toShot_c _ _ _ _ _ _ _ (length_flPair _) _ _ _ (length_flJob _) _ _ _ (h0_3.ext (Ext.trans E5 (by assumption))) q0_3 (h0_4.ext (Ext.trans E5 (by assumption))) q0_4).mono ?_; rintro e w6 ⟨_, rfl, hx6, tz0_3, tz0_4, rfl, gz0_3, gz0_4⟩; obtain ⟨az0_3, nz0_3, kz0_3, rfl⟩ := gz0_3.shape; obtain ⟨az0_4, nz0_4, kz0_4, rfl⟩ := gz0_4.shape) | (go_at_call 18; refine (eqShot_c _ _ _ _ _ _ _ _ _ _ _ _ _ ((gx0_3.ints).ext (by assumption)) (gz0_3.ints) ((gx0_4.ints).ext (by assumption)) (gz0_4.ints)).mono ?_; rintro e w7 ⟨rfl, hx7⟩))
    have X7 : Ext w5 w7 := by assumption
    clear p00 p01 p02 p03 p04 p05 p06 p07 q00 q01 q02 q03 q04 q05 q06 q07
    clear hx7
    have Z7 := X7.size; have E7 : Ext w w7 := E5.trans X7
    have Ba0 := Ba0.ext X7
    have gx0_3 := gx0_3.ext X7
    have gx0_4 := gx0_4.ext X7
    have Bx0 := Bx0.ext X7
    have CBa0 := Ba0.cell; have LBa0 := Ba0.lt
    have CBx0 := Bx0.cell; have LBx0 := Bx0.lt
    go_wp2
    go_ret
    exact ⟨rfl, E7⟩
end Go.Proofs.Ytghfklophkekjaa
