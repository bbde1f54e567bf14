/- The statement's walk: FnExactShelfOk. -/
import Derived.Test.YtghfklophkekjaaS3
import Derived.Test.YtghfklophkekjaaHelpD
namespace Go.Proofs.Ytghfklophkekjaa
open Go.RowKit Go.G8

set_option maxHeartbeats 4000000 in
set_option maxRecDepth 100000 in
theorem law_ShelfOk (w : World) (s0_0 : Value) (l0_0 : List (List Int)) (s0_1 : Value) (l0_1 : List DWrite) (h0_0 : Nest 0 w s0_0 (nestInt64S l0_0)) (h0_1 : Nest 1 w s0_1 (nestWrite l0_1)) : Calls Try.prog 3 #[.agg #[s0_0, s0_1]] w (RetV w (.bool true)) := by
  obtain ⟨a0_0, n0_0, k0_0, rfl⟩ := h0_0.shape
  obtain ⟨a0_1, n0_1, k0_1, rfl⟩ := h0_1.shape
  go_enter Try.func3, Try.ntmps3
  go_wp2_with fail
  refine (szDisk_c _ _ _ _ _ _ (h0_0.ext (by repeat' (first | (with_reducible exact Ext.refl _) | (with_reducible assumption) | (with_reducible refine Ext.drewN ?_ _) | (with_reducible refine Ext.drew ?_) | (with_reducible refine Ext.alloc ?_ _) | (with_reducible refine Ext.setCell ?_ ?_ _) | (with_reducible refine Ext.setRow ?_ ?_ _) | (with_reducible exact Nat.le_refl _) | (with_reducible refine Ext.trans ?_ (by assumption)) | omega))) (h0_1.ext (by repeat' (first | (with_reducible exact Ext.refl _) | (with_reducible assumption) | (with_reducible refine Ext.drewN ?_ _) | (with_reducible refine Ext.drew ?_) | (with_reducible refine Ext.alloc ?_ _) | (with_reducible refine Ext.setCell ?_ ?_ _) | (with_reducible refine Ext.setRow ?_ ?_ _) | (with_reducible exact Nat.le_refl _) | (with_reducible refine Ext.trans ?_ (by assumption)) | omega))) (by omega) (by omega)).mono ?_
  rintro e w1 ⟨v1, rfl, hx1, hv1⟩
  have X1 : Ext w w1 := by repeat' (first | (with_reducible exact Ext.refl _) | (with_reducible assumption) | (with_reducible refine Ext.drewN ?_ _) | (with_reducible refine Ext.drew ?_) | (with_reducible refine Ext.alloc ?_ _) | (with_reducible refine Ext.setCell ?_ ?_ _) | (with_reducible refine Ext.setRow ?_ ?_ _) | (with_reducible exact Nat.le_refl _) | (with_reducible refine Ext.trans ?_ (by assumption)) | omega)
  have Ba0 : Blk w1 w.heap.size 25 #[.slice a0_0 n0_0 k0_0, .slice a0_1 n0_1 k0_1] := (Blk.new w 25 #[.slice a0_0 n0_0 k0_0, .slice a0_1 n0_1 k0_1]).ext (Ext.trans (Ext.refl _) hx1)
  have MBa0 := Ba0.lt
  have Z1 := X1.size
  have E1 : Ext w w1 := X1
  clear hx1
  have CBa0 := Ba0.cell; have LBa0 := Ba0.lt
  rcases hv1 with ⟨rfl, q1⟩ | ⟨rfl, q1⟩
  · go_wp2; go_ret; exact ⟨rfl, by repeat' (first | (with_reducible exact Ext.refl _) | (with_reducible assumption) | (with_reducible refine Ext.drewN ?_ _) | (with_reducible refine Ext.drew ?_) | (with_reducible refine Ext.alloc ?_ _) | (with_reducible refine Ext.setCell ?_ ?_ _) | (with_reducible refine Ext.setRow ?_ ?_ _) | (with_reducible exact Nat.le_refl _) | (with_reducible refine Ext.trans ?_ (by assumption)) | omega)⟩
  have q0_0 : rowsSize (nestInt64S l0_0) ≤ 1048576 := by omega
  have q0_1 : rowsSize (nestWrite l0_1) ≤ 1048576 := by omega
  go_wp2_with fail
  refine (toDisk_c _ _ _ _ _ (h0_0.ext (E1.trans (by repeat' (first | (with_reducible exact Ext.refl _) | (with_reducible assumption) | (with_reducible refine Ext.drewN ?_ _) | (with_reducible refine Ext.drew ?_) | (with_reducible refine Ext.alloc ?_ _) | (with_reducible refine Ext.setCell ?_ ?_ _) | (with_reducible refine Ext.setRow ?_ ?_ _) | (with_reducible exact Nat.le_refl _) | (with_reducible refine Ext.trans ?_ (by assumption)) | omega)))) q0_0 (h0_1.ext (E1.trans (by repeat' (first | (with_reducible exact Ext.refl _) | (with_reducible assumption) | (with_reducible refine Ext.drewN ?_ _) | (with_reducible refine Ext.drew ?_) | (with_reducible refine Ext.alloc ?_ _) | (with_reducible refine Ext.setCell ?_ ?_ _) | (with_reducible refine Ext.setRow ?_ ?_ _) | (with_reducible exact Nat.le_refl _) | (with_reducible refine Ext.trans ?_ (by assumption)) | omega)))) q0_1).mono ?_
  rintro e w2 ⟨_, rfl, hx2, tu0_0, tu0_1, rfl, gu0_0, gu0_1⟩
  have X2 : Ext w1 w2 := by repeat' (first | (with_reducible exact Ext.refl _) | (with_reducible assumption) | (with_reducible refine Ext.drewN ?_ _) | (with_reducible refine Ext.drew ?_) | (with_reducible refine Ext.alloc ?_ _) | (with_reducible refine Ext.setCell ?_ ?_ _) | (with_reducible refine Ext.setRow ?_ ?_ _) | (with_reducible exact Nat.le_refl _) | (with_reducible refine Ext.trans ?_ (by assumption)) | omega)
  have Z2 := X2.size
  have E2 : Ext w w2 := E1.trans X2
  have Ba0 := Ba0.ext X2
  clear hx2
  clear CBa0 LBa0
  have CBa0 := Ba0.cell; have LBa0 := Ba0.lt
  obtain ⟨au0_0, nu0_0, ku0_0, rfl⟩ := gu0_0.shape
  (try have bu0_0 := gu0_0.foot); (try simp only [World.size_alloc] at bu0_0)
  obtain ⟨au0_1, nu0_1, ku0_1, rfl⟩ := gu0_1.shape
  (try have bu0_1 := gu0_1.foot); (try simp only [World.size_alloc] at bu0_1)
  go_wp2_with fail
  refine (sShelfOk_c _ _ _ _ _ ((gu0_0.nest).ext (by repeat' (first | (with_reducible exact Ext.refl _) | (with_reducible assumption) | (with_reducible refine Ext.drewN ?_ _) | (with_reducible refine Ext.drew ?_) | (with_reducible refine Ext.alloc ?_ _) | (with_reducible refine Ext.setCell ?_ ?_ _) | (with_reducible refine Ext.setRow ?_ ?_ _) | (with_reducible exact Nat.le_refl _) | (with_reducible refine Ext.trans ?_ (by assumption)) | omega))) ((gu0_1.nest).ext (by repeat' (first | (with_reducible exact Ext.refl _) | (with_reducible assumption) | (with_reducible refine Ext.drewN ?_ _) | (with_reducible refine Ext.drew ?_) | (with_reducible refine Ext.alloc ?_ _) | (with_reducible refine Ext.setCell ?_ ?_ _) | (with_reducible refine Ext.setRow ?_ ?_ _) | (with_reducible exact Nat.le_refl _) | (with_reducible refine Ext.trans ?_ (by assumption)) | omega)))).mono ?_
  rintro e w3 ⟨rfl, hx3⟩
  have X3 : Ext w2 w3 := by repeat' (first | (with_reducible exact Ext.refl _) | (with_reducible assumption) | (with_reducible refine Ext.drewN ?_ _) | (with_reducible refine Ext.drew ?_) | (with_reducible refine Ext.alloc ?_ _) | (with_reducible refine Ext.setCell ?_ ?_ _) | (with_reducible refine Ext.setRow ?_ ?_ _) | (with_reducible exact Nat.le_refl _) | (with_reducible refine Ext.trans ?_ (by assumption)) | omega)
  have Z3 := X3.size
  have E3 : Ext w w3 := E2.trans X3
  have Ba0 := Ba0.ext X3
  have gu0_0 := gu0_0.ext X3
  have gu0_1 := gu0_1.ext X3
  clear hx3
  clear CBa0 LBa0
  have CBa0 := Ba0.cell; have LBa0 := Ba0.lt
  go_wp2_with fail
  refine (toDisk_c _ _ _ _ _ (h0_0.ext (E3.trans (by repeat' (first | (with_reducible exact Ext.refl _) | (with_reducible assumption) | (with_reducible refine Ext.drewN ?_ _) | (with_reducible refine Ext.drew ?_) | (with_reducible refine Ext.alloc ?_ _) | (with_reducible refine Ext.setCell ?_ ?_ _) | (with_reducible refine Ext.setRow ?_ ?_ _) | (with_reducible exact Nat.le_refl _) | (with_reducible refine Ext.trans ?_ (by assumption)) | omega)))) q0_0 (h0_1.ext (E3.trans (by repeat' (first | (with_reducible exact Ext.refl _) | (with_reducible assumption) | (with_reducible refine Ext.drewN ?_ _) | (with_reducible refine Ext.drew ?_) | (with_reducible refine Ext.alloc ?_ _) | (with_reducible refine Ext.setCell ?_ ?_ _) | (with_reducible refine Ext.setRow ?_ ?_ _) | (with_reducible exact Nat.le_refl _) | (with_reducible refine Ext.trans ?_ (by assumption)) | omega)))) q0_1).mono ?_
  rintro e w4 ⟨_, rfl, hx4, tx0_0, tx0_1, rfl, gx0_0, gx0_1⟩
  have X4 : Ext w3 w4 := by repeat' (first | (with_reducible exact Ext.refl _) | (with_reducible assumption) | (with_reducible refine Ext.drewN ?_ _) | (with_reducible refine Ext.drew ?_) | (with_reducible refine Ext.alloc ?_ _) | (with_reducible refine Ext.setCell ?_ ?_ _) | (with_reducible refine Ext.setRow ?_ ?_ _) | (with_reducible exact Nat.le_refl _) | (with_reducible refine Ext.trans ?_ (by assumption)) | omega)
  have Z4 := X4.size
  have E4 : Ext w w4 := E3.trans X4
  have Ba0 := Ba0.ext X4
  clear hx4
  clear CBa0 LBa0
  have CBa0 := Ba0.cell; have LBa0 := Ba0.lt
  obtain ⟨ax0_0, nx0_0, kx0_0, rfl⟩ := gx0_0.shape
  (try have bx0_0 := gx0_0.foot); (try simp only [World.size_alloc] at bx0_0)
  obtain ⟨ax0_1, nx0_1, kx0_1, rfl⟩ := gx0_1.shape
  (try have bx0_1 := gx0_1.foot); (try simp only [World.size_alloc] at bx0_1)
  go_wp2_with fail
  refine (shelfOk_c _ _ _ _ _ ((gx0_0.nest).ext (by repeat' (first | (with_reducible exact Ext.refl _) | (with_reducible assumption) | (with_reducible refine Ext.drewN ?_ _) | (with_reducible refine Ext.drew ?_) | (with_reducible refine Ext.alloc ?_ _) | (with_reducible refine Ext.setCell ?_ ?_ _) | (with_reducible refine Ext.setRow ?_ ?_ _) | (with_reducible exact Nat.le_refl _) | (with_reducible refine Ext.trans ?_ (by assumption)) | omega))) ((gx0_1.nest).ext (by repeat' (first | (with_reducible exact Ext.refl _) | (with_reducible assumption) | (with_reducible refine Ext.drewN ?_ _) | (with_reducible refine Ext.drew ?_) | (with_reducible refine Ext.alloc ?_ _) | (with_reducible refine Ext.setCell ?_ ?_ _) | (with_reducible refine Ext.setRow ?_ ?_ _) | (with_reducible exact Nat.le_refl _) | (with_reducible refine Ext.trans ?_ (by assumption)) | omega)))).mono ?_
  rintro e w5 ⟨rfl, hx5⟩
  have X5 : Ext w4 w5 := by repeat' (first | (with_reducible exact Ext.refl _) | (with_reducible assumption) | (with_reducible refine Ext.drewN ?_ _) | (with_reducible refine Ext.drew ?_) | (with_reducible refine Ext.alloc ?_ _) | (with_reducible refine Ext.setCell ?_ ?_ _) | (with_reducible refine Ext.setRow ?_ ?_ _) | (with_reducible exact Nat.le_refl _) | (with_reducible refine Ext.trans ?_ (by assumption)) | omega)
  have Bx0 : Blk w5 w4.heap.size 30 #[.slice ax0_0 nx0_0 kx0_0, .slice ax0_1 nx0_1 kx0_1] := (Blk.new w4 30 #[.slice ax0_0 nx0_0 kx0_0, .slice ax0_1 nx0_1 kx0_1]).ext (Ext.trans (Ext.refl _) hx5)
  have MBx0 := Bx0.lt
  have Z5 := X5.size
  have E5 : Ext w w5 := E4.trans X5
  have Ba0 := Ba0.ext X5
  have gx0_0 := gx0_0.ext X5
  have gx0_1 := gx0_1.ext X5
  clear hx5
  clear CBa0 LBa0
  have CBa0 := Ba0.cell; have LBa0 := Ba0.lt
  have CBx0 := Bx0.cell; have LBx0 := Bx0.lt
  as_aux_lemma =>
    go_wp2_with fail
    have p00 : ∀ w', Ext w5 w' → w'.cell? ⟨_, 0, none⟩ = some (.slice a0_0 n0_0 k0_0) := fun w' hw => (Ba0.ext hw).cell 0
    have p01 : ∀ w', Ext w5 w' → w'.cell? ⟨_, 1, none⟩ = some (.slice a0_1 n0_1 k0_1) := fun w' hw => (Ba0.ext hw).cell 1
    have q00 : ∀ w', Ext w5 w' → w'.cell? ⟨_, 0, none⟩ = some (.slice ax0_0 nx0_0 kx0_0) := fun w' hw => (Bx0.ext hw).cell 0
    have q01 : ∀ w', Ext w5 w' → w'.cell? ⟨_, 1, none⟩ = some (.slice ax0_1 nx0_1 kx0_1) := fun w' hw => (Bx0.ext hw).cell 1
    clear CBa0 LBa0 CBx0 LBx0
    go_region_held3 (fun w' => Ext w5 w') (first | exact Ext.drew (Ext.refl _) | exact Ext.trans (by assumption) hx6 | exact Ext.trans (by assumption) hx7) (first | (go_at_call 11; refine (toDisk_c _ _ _ _ _ (h0_0.ext (Ext.trans E5 (by assumption))) q0_0 (h0_1.ext (Ext.trans E5 (by assumption))) q0_1).mono ?_; rintro e w6 ⟨_, rfl, hx6, tz0_0, tz0_1, rfl, gz0_0, gz0_1⟩; obtain ⟨az0_0, nz0_0, kz0_0, rfl⟩ := gz0_0.shape; obtain ⟨az0_1, nz0_1, kz0_1, rfl⟩ := gz0_1.shape) | (go_at_call 13; refine (eqDisk_c _ _ _ _ _ _ _ ((gx0_0.nest).ext (by assumption)) (gz0_0.nest) ((gx0_1.nest).ext (by assumption)) (gz0_1.nest)).mono ?_; rintro e w7 ⟨rfl, hx7⟩))
    have X7 : Ext w5 w7 := by assumption
    clear p00 p01 q00 q01
    clear hx7
    have Z7 := X7.size; have E7 : Ext w w7 := E5.trans X7
    have Ba0 := Ba0.ext X7
    have gx0_0 := gx0_0.ext X7
    have gx0_1 := gx0_1.ext X7
    have Bx0 := Bx0.ext X7
    have CBa0 := Ba0.cell; have LBa0 := Ba0.lt
    have CBx0 := Bx0.cell; have LBx0 := Bx0.lt
    go_wp2
    go_ret
    exact ⟨rfl, E7⟩
end Go.Proofs.Ytghfklophkekjaa
