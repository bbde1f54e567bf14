/- The statement's walk: FnExactShotRows. -/
import Derived.Test.YtemhbbpbmgpcaaaSh1
set_option linter.unusedSimpArgs false
set_option linter.unusedVariables false
namespace Go.Proofs.Ytemhbbpbmgpcaaa
open Go.RowKit Go.G8

set_option maxHeartbeats 4000000 in
set_option maxRecDepth 100000 in
theorem law_ShotRows (w : World) (c0_0 : Int) (c0_1 : Int) (c0_2 : Int) (s0_3 : Value) (l0_3 : List DPair) (s0_4 : Value) (l0_4 : List DJob) (c0_5 : Int) (c0_6 : Int) (c0_7 : Int) (h0_3 : Ints 2 w s0_3 (flPair l0_3)) (h0_4 : Ints 5 w s0_4 (flJob l0_4)) : Calls Try.prog 3 #[.agg #[.int .i64 c0_0, .int .i64 c0_1, .int .i64 c0_2, s0_3, s0_4, .int .i64 c0_5, .int .i64 c0_6, .int .i64 c0_7]] w (RetV w (.bool true)) := by
  obtain ⟨a0_3, n0_3, k0_3, rfl⟩ := h0_3.shape
  obtain ⟨a0_4, n0_4, k0_4, rfl⟩ := h0_4.shape
  have h0 : RdShot w (.agg #[.int .i64 c0_0, .int .i64 c0_1, .int .i64 c0_2, .slice a0_3 n0_3 k0_3, .slice a0_4 n0_4 k0_4, .int .i64 c0_5, .int .i64 c0_6, .int .i64 c0_7]) ⟨c0_0, ⟨c0_1, c0_2, l0_3, l0_4, ⟨c0_5, c0_6, c0_7⟩⟩⟩ := ⟨_, _, rfl, h0_3, h0_4⟩
  obtain ⟨S, hS⟩ : ∃ S : DShot, S = ⟨c0_0, ⟨c0_1, c0_2, l0_3, l0_4, ⟨c0_5, c0_6, c0_7⟩⟩⟩ := ⟨_, rfl⟩
  rw [← hS] at h0
  go_enter Try.func3, Try.ntmps3
  go_wp2_with fail
  refine (sz_Shot (h0.ext (by repeat' (first | (with_reducible exact Ext.refl _) | (with_reducible assumption) | (with_reducible refine Ext.drewN ?_ _) | (with_reducible refine Ext.drew ?_) | (with_reducible refine Ext.alloc ?_ _) | (with_reducible refine Ext.setCell ?_ ?_ _) | (with_reducible refine Ext.setRow ?_ ?_ _) | (with_reducible exact Nat.le_refl _) | (with_reducible refine Ext.trans ?_ (by assumption)) | omega))) (by omega) (by omega)).mono ?_
  rintro e w1 ⟨v1, rfl, hx1, hv1⟩
  have X1 : Ext w w1 := by repeat' (first | (with_reducible exact Ext.refl _) | (with_reducible assumption) | (with_reducible refine Ext.drewN ?_ _) | (with_reducible refine Ext.drew ?_) | (with_reducible refine Ext.alloc ?_ _) | (with_reducible refine Ext.setCell ?_ ?_ _) | (with_reducible refine Ext.setRow ?_ ?_ _) | (with_reducible exact Nat.le_refl _) | (with_reducible refine Ext.trans ?_ (by assumption)) | omega)
  have Ba : Blk w1 w.heap.size 29 #[.int .i64 c0_0, .int .i64 c0_1, .int .i64 c0_2, .slice a0_3 n0_3 k0_3, .slice a0_4 n0_4 k0_4, .int .i64 c0_5, .int .i64 c0_6, .int .i64 c0_7] := (Blk.new w 29 #[.int .i64 c0_0, .int .i64 c0_1, .int .i64 c0_2, .slice a0_3 n0_3 k0_3, .slice a0_4 n0_4 k0_4, .int .i64 c0_5, .int .i64 c0_6, .int .i64 c0_7]).ext hx1
  have MBa := Ba.lt
  have Z1 := X1.size
  have E1 : Ext w w1 := X1
  clear hx1
  have CBa := Ba.cell; have LBa := Ba.lt
  rcases hv1 with ⟨rfl, qz⟩ | ⟨rfl, qz⟩
  · go_wp2; go_ret; exact ⟨rfl, by repeat' (first | (with_reducible exact Ext.refl _) | (with_reducible assumption) | (with_reducible refine Ext.drewN ?_ _) | (with_reducible refine Ext.drew ?_) | (with_reducible refine Ext.alloc ?_ _) | (with_reducible refine Ext.setCell ?_ ?_ _) | (with_reducible refine Ext.setRow ?_ ?_ _) | (with_reducible exact Nat.le_refl _) | (with_reducible refine Ext.trans ?_ (by assumption)) | omega)⟩
  have q0 : S.State.Pairs.length ≤ 1048576 := by omega
  have q1 : S.State.Jobs.length ≤ 1048576 := by omega
  have nx := numShot_le (s := S) q0 q1
  have nb := shotRows_small S
  clear hS h0_3 h0_4
  go_wp2_with fail
  refine (to_Shot (h0.ext (by repeat' (first | (with_reducible exact Ext.refl _) | (with_reducible assumption) | (with_reducible refine Ext.drewN ?_ _) | (with_reducible refine Ext.drew ?_) | (with_reducible refine Ext.alloc ?_ _) | (with_reducible refine Ext.setCell ?_ ?_ _) | (with_reducible refine Ext.setRow ?_ ?_ _) | (with_reducible exact Nat.le_refl _) | (with_reducible refine Ext.trans ?_ (by assumption)) | omega))) q0 q1).mono ?_
  rintro e w2 ⟨_, rfl, hx2, Fu, gu⟩
  obtain ⟨au3, nu3, ku3, au4, nu4, ku4, rfl⟩ := gu.rd.shape
  have lu := gu.low; (try simp only [World.size_alloc] at lu)
  have X2 : Ext w1 w2 := by repeat' (first | (with_reducible exact Ext.refl _) | (with_reducible assumption) | (with_reducible refine Ext.drewN ?_ _) | (with_reducible refine Ext.drew ?_) | (with_reducible refine Ext.alloc ?_ _) | (with_reducible refine Ext.setCell ?_ ?_ _) | (with_reducible refine Ext.setRow ?_ ?_ _) | (with_reducible exact Nat.le_refl _) | (with_reducible refine Ext.trans ?_ (by assumption)) | omega)
  have Z2 := X2.size
  have E2 : Ext w w2 := E1.trans X2
  have Ba := Ba.ext X2
  clear hx2
  clear CBa LBa
  have CBa := Ba.cell; have LBa := Ba.lt
  go_wp2_with fail
  refine (sShotRows_k ((gu.rd).ext (by repeat' (first | (with_reducible exact Ext.refl _) | (with_reducible assumption) | (with_reducible refine Ext.drewN ?_ _) | (with_reducible refine Ext.drew ?_) | (with_reducible refine Ext.alloc ?_ _) | (with_reducible refine Ext.setCell ?_ ?_ _) | (with_reducible refine Ext.setRow ?_ ?_ _) | (with_reducible exact Nat.le_refl _) | (with_reducible refine Ext.trans ?_ (by assumption)) | omega)))).mono ?_
  rintro e w3 ⟨_, rfl, hx3, Fw, gw⟩
  obtain ⟨aw0, nw0, kw0, rfl⟩ := gw.rd.shape
  have lw := gw.low; (try simp only [World.size_alloc] at lw)
  have X3 : Ext w2 w3 := by repeat' (first | (with_reducible exact Ext.refl _) | (with_reducible assumption) | (with_reducible refine Ext.drewN ?_ _) | (with_reducible refine Ext.drew ?_) | (with_reducible refine Ext.alloc ?_ _) | (with_reducible refine Ext.setCell ?_ ?_ _) | (with_reducible refine Ext.setRow ?_ ?_ _) | (with_reducible exact Nat.le_refl _) | (with_reducible refine Ext.trans ?_ (by assumption)) | omega)
  have Z3 := X3.size
  have E3 : Ext w w3 := E2.trans X3
  have Ba := Ba.ext X3
  have gu := gu.ext X3
  clear hx3
  clear CBa LBa
  have CBa := Ba.cell; have LBa := Ba.lt
  go_wp2_with fail
  refine (to_Shot (h0.ext (by repeat' (first | (with_reducible exact Ext.refl _) | (with_reducible assumption) | (with_reducible refine Ext.drewN ?_ _) | (with_reducible refine Ext.drew ?_) | (with_reducible refine Ext.alloc ?_ _) | (with_reducible refine Ext.setCell ?_ ?_ _) | (with_reducible refine Ext.setRow ?_ ?_ _) | (with_reducible exact Nat.le_refl _) | (with_reducible refine Ext.trans ?_ (by assumption)) | omega))) q0 q1).mono ?_
  rintro e w4 ⟨_, rfl, hx4, Fx, gx⟩
  obtain ⟨ax3, nx3, kx3, ax4, nx4, kx4, rfl⟩ := gx.rd.shape
  have lx := gx.low; (try simp only [World.size_alloc] at lx)
  have X4 : Ext w3 w4 := by repeat' (first | (with_reducible exact Ext.refl _) | (with_reducible assumption) | (with_reducible refine Ext.drewN ?_ _) | (with_reducible refine Ext.drew ?_) | (with_reducible refine Ext.alloc ?_ _) | (with_reducible refine Ext.setCell ?_ ?_ _) | (with_reducible refine Ext.setRow ?_ ?_ _) | (with_reducible exact Nat.le_refl _) | (with_reducible refine Ext.trans ?_ (by assumption)) | omega)
  have Z4 := X4.size
  have E4 : Ext w w4 := E3.trans X4
  have Ba := Ba.ext X4
  have gw := gw.ext X4
  clear hx4
  clear CBa LBa
  have CBa := Ba.cell; have LBa := Ba.lt
  go_wp2_with fail
  refine (shotRows_k ((gx.rd).ext (by repeat' (first | (with_reducible exact Ext.refl _) | (with_reducible assumption) | (with_reducible refine Ext.drewN ?_ _) | (with_reducible refine Ext.drew ?_) | (with_reducible refine Ext.alloc ?_ _) | (with_reducible refine Ext.setCell ?_ ?_ _) | (with_reducible refine Ext.setRow ?_ ?_ _) | (with_reducible exact Nat.le_refl _) | (with_reducible refine Ext.trans ?_ (by assumption)) | omega)))).mono ?_
  rintro e w5 ⟨_, rfl, hx5, Fg, gg⟩
  obtain ⟨ag0, ng0, kg0, rfl⟩ := gg.rd.shape
  have lg := gg.low; (try simp only [World.size_alloc] at lg)
  have X5 : Ext w4 w5 := by repeat' (first | (with_reducible exact Ext.refl _) | (with_reducible assumption) | (with_reducible refine Ext.drewN ?_ _) | (with_reducible refine Ext.drew ?_) | (with_reducible refine Ext.alloc ?_ _) | (with_reducible refine Ext.setCell ?_ ?_ _) | (with_reducible refine Ext.setRow ?_ ?_ _) | (with_reducible exact Nat.le_refl _) | (with_reducible refine Ext.trans ?_ (by assumption)) | omega)
  have Bx : Blk w5 w4.heap.size 39 #[.int .i64 S.Num, .int .i64 S.State.Index, .int .i64 S.State.Time, .slice ax3 nx3 kx3, .slice ax4 nx4 kx4, .int .i64 S.State.Lease.Holder, .int .i64 S.State.Lease.Epoch, .int .i64 S.State.Lease.Until] := (Blk.new w4 39 #[.int .i64 S.Num, .int .i64 S.State.Index, .int .i64 S.State.Time, .slice ax3 nx3 kx3, .slice ax4 nx4 kx4, .int .i64 S.State.Lease.Holder, .int .i64 S.State.Lease.Epoch, .int .i64 S.State.Lease.Until]).ext hx5
  have MBx := Bx.lt
  have Z5 := X5.size
  have E5 : Ext w w5 := E4.trans X5
  have Ba := Ba.ext X5
  have gw := gw.ext X5
  have gx := gx.ext X5
  clear hx5
  clear CBa LBa
  have CBa := Ba.cell; have LBa := Ba.lt
  have CBx := Bx.cell; have LBx := Bx.lt
  as_aux_lemma =>
    go_wp2_with fail
    refine (eq_Rows ((gg.rd).ext (by repeat' (first | (with_reducible exact Ext.refl _) | (with_reducible assumption) | (with_reducible refine Ext.drewN ?_ _) | (with_reducible refine Ext.drew ?_) | (with_reducible refine Ext.alloc ?_ _) | (with_reducible refine Ext.setCell ?_ ?_ _) | (with_reducible refine Ext.setRow ?_ ?_ _) | (with_reducible exact Nat.le_refl _) | (with_reducible refine Ext.trans ?_ (by assumption)) | omega))) ((gw.rd).ext (by repeat' (first | (with_reducible exact Ext.refl _) | (with_reducible assumption) | (with_reducible refine Ext.drewN ?_ _) | (with_reducible refine Ext.drew ?_) | (with_reducible refine Ext.alloc ?_ _) | (with_reducible refine Ext.setCell ?_ ?_ _) | (with_reducible refine Ext.setRow ?_ ?_ _) | (with_reducible exact Nat.le_refl _) | (with_reducible refine Ext.trans ?_ (by assumption)) | omega)))).mono ?_
    rintro e w6 ⟨rfl, hx6⟩
    have X6 : Ext w5 w6 := by repeat' (first | (with_reducible exact Ext.refl _) | (with_reducible assumption) | (with_reducible refine Ext.drewN ?_ _) | (with_reducible refine Ext.drew ?_) | (with_reducible refine Ext.alloc ?_ _) | (with_reducible refine Ext.setCell ?_ ?_ _) | (with_reducible refine Ext.setRow ?_ ?_ _) | (with_reducible exact Nat.le_refl _) | (with_reducible refine Ext.trans ?_ (by assumption)) | omega)
    have Z6 := X6.size
    have E6 : Ext w w6 := E5.trans X6
    have Ba := Ba.ext X6
    have gw := gw.ext X6
    have gx := gx.ext X6
    have Bx := Bx.ext X6
    have gg := gg.ext X6
    clear hx6
    clear CBa LBa CBx LBx
    have CBa := Ba.cell; have LBa := Ba.lt
    have CBx := Bx.cell; have LBx := Bx.lt
    go_wp2_with fail
    have ya0 : ∀ w', Ext w6 w' → w'.cell? ⟨_, 0, none⟩ = some (.int .i64 c0_0) := fun w' hw => (Ba.ext hw).cell 0
    have ya1 : ∀ w', Ext w6 w' → w'.cell? ⟨_, 1, none⟩ = some (.int .i64 c0_1) := fun w' hw => (Ba.ext hw).cell 1
    have ya2 : ∀ w', Ext w6 w' → w'.cell? ⟨_, 2, none⟩ = some (.int .i64 c0_2) := fun w' hw => (Ba.ext hw).cell 2
    have ya3 : ∀ w', Ext w6 w' → w'.cell? ⟨_, 3, none⟩ = some (.slice a0_3 n0_3 k0_3) := fun w' hw => (Ba.ext hw).cell 3
    have ya4 : ∀ w', Ext w6 w' → w'.cell? ⟨_, 4, none⟩ = some (.slice a0_4 n0_4 k0_4) := fun w' hw => (Ba.ext hw).cell 4
    have ya5 : ∀ w', Ext w6 w' → w'.cell? ⟨_, 5, none⟩ = some (.int .i64 c0_5) := fun w' hw => (Ba.ext hw).cell 5
    have ya6 : ∀ w', Ext w6 w' → w'.cell? ⟨_, 6, none⟩ = some (.int .i64 c0_6) := fun w' hw => (Ba.ext hw).cell 6
    have ya7 : ∀ w', Ext w6 w' → w'.cell? ⟨_, 7, none⟩ = some (.int .i64 c0_7) := fun w' hw => (Ba.ext hw).cell 7
    have yb0 : ∀ w', Ext w6 w' → w'.cell? ⟨_, 0, none⟩ = some (.int .i64 S.Num) := fun w' hw => (Bx.ext hw).cell 0
    have yb1 : ∀ w', Ext w6 w' → w'.cell? ⟨_, 1, none⟩ = some (.int .i64 S.State.Index) := fun w' hw => (Bx.ext hw).cell 1
    have yb2 : ∀ w', Ext w6 w' → w'.cell? ⟨_, 2, none⟩ = some (.int .i64 S.State.Time) := fun w' hw => (Bx.ext hw).cell 2
    have yb3 : ∀ w', Ext w6 w' → w'.cell? ⟨_, 3, none⟩ = some (.slice ax3 nx3 kx3) := fun w' hw => (Bx.ext hw).cell 3
    have yb4 : ∀ w', Ext w6 w' → w'.cell? ⟨_, 4, none⟩ = some (.slice ax4 nx4 kx4) := fun w' hw => (Bx.ext hw).cell 4
    have yb5 : ∀ w', Ext w6 w' → w'.cell? ⟨_, 5, none⟩ = some (.int .i64 S.State.Lease.Holder) := fun w' hw => (Bx.ext hw).cell 5
    have yb6 : ∀ w', Ext w6 w' → w'.cell? ⟨_, 6, none⟩ = some (.int .i64 S.State.Lease.Epoch) := fun w' hw => (Bx.ext hw).cell 6
    have yb7 : ∀ w', Ext w6 w' → w'.cell? ⟨_, 7, none⟩ = some (.int .i64 S.State.Lease.Until) := fun w' hw => (Bx.ext hw).cell 7
    clear CBa LBa CBx LBx
    go_region_held3 (fun w' => Ext w6 w') (first | exact Ext.drew (Ext.refl _) | exact Ext.trans (by assumption) hx7 | exact Ext.trans (by assumption) hx8) (first | (go_at_call 7; refine (to_Shot (h0.ext (Ext.trans E6 (by assumption))) q0 q1).mono ?_; rintro e w7 ⟨_, rfl, hx7, Fz, gz⟩; obtain ⟨az3, nz3, kz3, az4, nz4, kz4, rfl⟩ := gz.rd.shape) | (go_at_call 10; refine (eq_Shot ((gx.rd).ext (by assumption)) gz.rd).mono ?_; rintro e w8 ⟨rfl, hx8⟩))
    have X8 : Ext w6 w8 := by assumption
    clear ya0 yb0 ya1 yb1 ya2 yb2 ya3 yb3 ya4 yb4 ya5 yb5 ya6 yb6 ya7 yb7 hx8
    have Z8 := X8.size; have E8 : Ext w w8 := E6.trans X8
    have Ba := Ba.ext X8
    have gw := gw.ext X8
    have gx := gx.ext X8
    have Bx := Bx.ext X8
    have gg := gg.ext X8
    have CBa := Ba.cell; have LBa := Ba.lt
    have CBx := Bx.cell; have LBx := Bx.lt
    as_aux_lemma =>
      go_wp2_with fail
      refine (mark_Shot (gx.ext (by repeat' (first | (with_reducible exact Ext.refl _) | (with_reducible assumption) | (with_reducible refine Ext.drewN ?_ _) | (with_reducible refine Ext.drew ?_) | (with_reducible refine Ext.alloc ?_ _) | (with_reducible refine Ext.setCell ?_ ?_ _) | (with_reducible refine Ext.setRow ?_ ?_ _) | (with_reducible exact Nat.le_refl _) | (with_reducible refine Ext.trans ?_ (by assumption)) | omega))) (by omega) (by have := nx; omega)).mono ?_
      rintro e w9 ⟨rfl, hx9, gxm⟩
      have X9 : Upd w8 w9 Fx := (Ext.upd (by repeat' (first | (with_reducible exact Ext.refl _) | (with_reducible assumption) | (with_reducible refine Ext.drewN ?_ _) | (with_reducible refine Ext.drew ?_) | (with_reducible refine Ext.alloc ?_ _) | (with_reducible refine Ext.setCell ?_ ?_ _) | (with_reducible refine Ext.setRow ?_ ?_ _) | (with_reducible exact Nat.le_refl _) | (with_reducible refine Ext.trans ?_ (by assumption)) | omega)) _).trans hx9
      have Z9 := X9.size
      have E9 : Ext w w9 := E8.upd_below X9 (fun k hk => by have := lx k hk; omega)
      have Ba := Ba.upd X9 (fun hk => by have := lx _ hk; omega)
      have gw := gw.upd X9 (fun k hk hk' => by have := lx k hk'; have := lw k hk; omega)
      have Bx := Bx.upd X9 (fun hk => by have := lx _ hk; omega)
      have gg := gg.upd X9 (fun k hk hk' => by have := lx k hk'; have := lg k hk; omega)
      obtain ⟨K, hK⟩ : ∃ z : Int, z = 1 + ((numShot (S) : Nat) : Int) := ⟨_, rfl⟩
      rw [← hK]
      have pK : 0 ≤ K := by omega
      have rK : K ≤ 1000000000 := by have := nx; omega
      have HK := Lib.hid hK
      clear hK
      have dK : decide (K < 0) = false := by simp; omega
      clear hx9
      clear CBa LBa CBx LBx
      have CBa := Ba.cell; have LBa := Ba.lt
      have CBx := Bx.cell; have LBx := Bx.lt
      go_wp2_with fail
      refine (eq_Rows ((gg.rd).ext (by repeat' (first | (with_reducible exact Ext.refl _) | (with_reducible assumption) | (with_reducible refine Ext.drewN ?_ _) | (with_reducible refine Ext.drew ?_) | (with_reducible refine Ext.alloc ?_ _) | (with_reducible refine Ext.setCell ?_ ?_ _) | (with_reducible refine Ext.setRow ?_ ?_ _) | (with_reducible exact Nat.le_refl _) | (with_reducible refine Ext.trans ?_ (by assumption)) | omega))) ((gw.rd).ext (by repeat' (first | (with_reducible exact Ext.refl _) | (with_reducible assumption) | (with_reducible refine Ext.drewN ?_ _) | (with_reducible refine Ext.drew ?_) | (with_reducible refine Ext.alloc ?_ _) | (with_reducible refine Ext.setCell ?_ ?_ _) | (with_reducible refine Ext.setRow ?_ ?_ _) | (with_reducible exact Nat.le_refl _) | (with_reducible refine Ext.trans ?_ (by assumption)) | omega)))).mono ?_
      rintro e w10 ⟨rfl, hx10⟩
      have X10 : Ext w9 w10 := by repeat' (first | (with_reducible exact Ext.refl _) | (with_reducible assumption) | (with_reducible refine Ext.drewN ?_ _) | (with_reducible refine Ext.drew ?_) | (with_reducible refine Ext.alloc ?_ _) | (with_reducible refine Ext.setCell ?_ ?_ _) | (with_reducible refine Ext.setRow ?_ ?_ _) | (with_reducible exact Nat.le_refl _) | (with_reducible refine Ext.trans ?_ (by assumption)) | omega)
      have Z10 := X10.size
      have E10 : Ext w w10 := E9.trans X10
      have Ba := Ba.ext X10
      have gw := gw.ext X10
      have Bx := Bx.ext X10
      have gg := gg.ext X10
      clear hx10
      clear CBa LBa CBx LBx
      have CBa := Ba.cell; have LBa := Ba.lt
      have CBx := Bx.cell; have LBx := Bx.lt
      go_wp2_with fail
      refine (mark_Rows (gg.ext (by repeat' (first | (with_reducible exact Ext.refl _) | (with_reducible assumption) | (with_reducible refine Ext.drewN ?_ _) | (with_reducible refine Ext.drew ?_) | (with_reducible refine Ext.alloc ?_ _) | (with_reducible refine Ext.setCell ?_ ?_ _) | (with_reducible refine Ext.setRow ?_ ?_ _) | (with_reducible exact Nat.le_refl _) | (with_reducible refine Ext.trans ?_ (by assumption)) | omega))) (by omega) (by have := nb; omega)).mono ?_
      rintro e w11 ⟨rfl, hx11, gm⟩
      have X11 : Upd w10 w11 Fg := (Ext.upd (by repeat' (first | (with_reducible exact Ext.refl _) | (with_reducible assumption) | (with_reducible refine Ext.drewN ?_ _) | (with_reducible refine Ext.drew ?_) | (with_reducible refine Ext.alloc ?_ _) | (with_reducible refine Ext.setCell ?_ ?_ _) | (with_reducible refine Ext.setRow ?_ ?_ _) | (with_reducible exact Nat.le_refl _) | (with_reducible refine Ext.trans ?_ (by assumption)) | omega)) _).trans hx11
      have Z11 := X11.size
      have E11 : Ext w w11 := E10.upd_below X11 (fun k hk => by have := lg k hk; omega)
      have Ba := Ba.upd X11 (fun hk => by have := lg _ hk; omega)
      have gw := gw.upd X11 (fun k hk hk' => by have := lg k hk'; have := lw k hk; omega)
      have Bx := Bx.upd X11 (fun hk => by have := lg _ hk; omega)
      obtain ⟨N, hN⟩ : ∃ z : Int, z = 1 + ((numRows (shotRows S) : Nat) : Int) := ⟨_, rfl⟩
      rw [← hN]
      have pN : 0 ≤ N := by omega
      have rN : N ≤ 1000000000 := by have := nb; omega
      have HN := Lib.hid hN
      clear hN
      have dN : decide (N < 0) = false := by simp; omega
      clear hx11
      clear CBa LBa CBx LBx
      have CBa := Ba.cell; have LBa := Ba.lt
      have CBx := Bx.cell; have LBx := Bx.lt
      go_wp2_with fail
      refine (held_Rows (gm.ext (by repeat' (first | (with_reducible exact Ext.refl _) | (with_reducible assumption) | (with_reducible refine Ext.drewN ?_ _) | (with_reducible refine Ext.drew ?_) | (with_reducible refine Ext.alloc ?_ _) | (with_reducible refine Ext.setCell ?_ ?_ _) | (with_reducible refine Ext.setRow ?_ ?_ _) | (with_reducible exact Nat.le_refl _) | (with_reducible refine Ext.trans ?_ (by assumption)) | omega))) (by omega) (by have := nb; omega)).mono ?_
      rintro e w12 ⟨rfl, hx12⟩
      rw [← HN.out]
      have X12 : Ext w11 w12 := by repeat' (first | (with_reducible exact Ext.refl _) | (with_reducible assumption) | (with_reducible refine Ext.drewN ?_ _) | (with_reducible refine Ext.drew ?_) | (with_reducible refine Ext.alloc ?_ _) | (with_reducible refine Ext.setCell ?_ ?_ _) | (with_reducible refine Ext.setRow ?_ ?_ _) | (with_reducible exact Nat.le_refl _) | (with_reducible refine Ext.trans ?_ (by assumption)) | omega)
      have Z12 := X12.size
      have E12 : Ext w w12 := E11.trans X12
      have Ba := Ba.ext X12
      have gw := gw.ext X12
      have Bx := Bx.ext X12
      have gm := gm.ext X12
      clear hx12
      clear CBa LBa CBx LBx
      have CBa := Ba.cell; have LBa := Ba.lt
      have CBx := Bx.cell; have LBx := Bx.lt
      go_wp2_with fail
      refine (to_Shot (h0.ext (by repeat' (first | (with_reducible exact Ext.refl _) | (with_reducible assumption) | (with_reducible refine Ext.drewN ?_ _) | (with_reducible refine Ext.drew ?_) | (with_reducible refine Ext.alloc ?_ _) | (with_reducible refine Ext.setCell ?_ ?_ _) | (with_reducible refine Ext.setRow ?_ ?_ _) | (with_reducible exact Nat.le_refl _) | (with_reducible refine Ext.trans ?_ (by assumption)) | omega))) q0 q1).mono ?_
      rintro e w13 ⟨_, rfl, hx13, Fy, gy⟩
      obtain ⟨ay3, ny3, ky3, ay4, ny4, ky4, rfl⟩ := gy.rd.shape
      have ly := gy.low; (try simp only [World.size_alloc] at ly)
      have X13 : Ext w12 w13 := by repeat' (first | (with_reducible exact Ext.refl _) | (with_reducible assumption) | (with_reducible refine Ext.drewN ?_ _) | (with_reducible refine Ext.drew ?_) | (with_reducible refine Ext.alloc ?_ _) | (with_reducible refine Ext.setCell ?_ ?_ _) | (with_reducible refine Ext.setRow ?_ ?_ _) | (with_reducible exact Nat.le_refl _) | (with_reducible refine Ext.trans ?_ (by assumption)) | omega)
      have Z13 := X13.size
      have E13 : Ext w w13 := E12.trans X13
      have Ba := Ba.ext X13
      have gw := gw.ext X13
      have Bx := Bx.ext X13
      have gm := gm.ext X13
      clear hx13
      clear CBa LBa CBx LBx
      have CBa := Ba.cell; have LBa := Ba.lt
      have CBx := Bx.cell; have LBx := Bx.lt
      go_wp2_with fail
      refine (shotRows_k ((gy.rd).ext (by repeat' (first | (with_reducible exact Ext.refl _) | (with_reducible assumption) | (with_reducible refine Ext.drewN ?_ _) | (with_reducible refine Ext.drew ?_) | (with_reducible refine Ext.alloc ?_ _) | (with_reducible refine Ext.setCell ?_ ?_ _) | (with_reducible refine Ext.setRow ?_ ?_ _) | (with_reducible exact Nat.le_refl _) | (with_reducible refine Ext.trans ?_ (by assumption)) | omega)))).mono ?_
      rintro e w14 ⟨_, rfl, hx14, Fh, gh⟩
      obtain ⟨ah0, nh0, kh0, rfl⟩ := gh.rd.shape
      have lh := gh.low; (try simp only [World.size_alloc] at lh)
      have X14 : Ext w13 w14 := by repeat' (first | (with_reducible exact Ext.refl _) | (with_reducible assumption) | (with_reducible refine Ext.drewN ?_ _) | (with_reducible refine Ext.drew ?_) | (with_reducible refine Ext.alloc ?_ _) | (with_reducible refine Ext.setCell ?_ ?_ _) | (with_reducible refine Ext.setRow ?_ ?_ _) | (with_reducible exact Nat.le_refl _) | (with_reducible refine Ext.trans ?_ (by assumption)) | omega)
      have Z14 := X14.size
      have E14 : Ext w w14 := E13.trans X14
      have Ba := Ba.ext X14
      have gw := gw.ext X14
      have Bx := Bx.ext X14
      have gm := gm.ext X14
      have gy := gy.ext X14
      clear hx14
      clear CBa LBa CBx LBx
      have CBa := Ba.cell; have LBa := Ba.lt
      have CBx := Bx.cell; have LBx := Bx.lt
      go_wp2_with fail
      refine (eq_Rows ((gh.rd).ext (by repeat' (first | (with_reducible exact Ext.refl _) | (with_reducible assumption) | (with_reducible refine Ext.drewN ?_ _) | (with_reducible refine Ext.drew ?_) | (with_reducible refine Ext.alloc ?_ _) | (with_reducible refine Ext.setCell ?_ ?_ _) | (with_reducible refine Ext.setRow ?_ ?_ _) | (with_reducible exact Nat.le_refl _) | (with_reducible refine Ext.trans ?_ (by assumption)) | omega))) ((gw.rd).ext (by repeat' (first | (with_reducible exact Ext.refl _) | (with_reducible assumption) | (with_reducible refine Ext.drewN ?_ _) | (with_reducible refine Ext.drew ?_) | (with_reducible refine Ext.alloc ?_ _) | (with_reducible refine Ext.setCell ?_ ?_ _) | (with_reducible refine Ext.setRow ?_ ?_ _) | (with_reducible exact Nat.le_refl _) | (with_reducible refine Ext.trans ?_ (by assumption)) | omega)))).mono ?_
      rintro e w15 ⟨rfl, hx15⟩
      have X15 : Ext w14 w15 := by repeat' (first | (with_reducible exact Ext.refl _) | (with_reducible assumption) | (with_reducible refine Ext.drewN ?_ _) | (with_reducible refine Ext.drew ?_) | (with_reducible refine Ext.alloc ?_ _) | (with_reducible refine Ext.setCell ?_ ?_ _) | (with_reducible refine Ext.setRow ?_ ?_ _) | (with_reducible exact Nat.le_refl _) | (with_reducible refine Ext.trans ?_ (by assumption)) | omega)
      have Z15 := X15.size
      have E15 : Ext w w15 := E14.trans X15
      have Ba := Ba.ext X15
      have gw := gw.ext X15
      have Bx := Bx.ext X15
      have gm := gm.ext X15
      have gh := gh.ext X15
      clear hx15
      clear CBa LBa CBx LBx
      have CBa := Ba.cell; have LBa := Ba.lt
      have CBx := Bx.cell; have LBx := Bx.lt
      go_wp2_with fail
      refine (held_Rows (gm.ext (by repeat' (first | (with_reducible exact Ext.refl _) | (with_reducible assumption) | (with_reducible refine Ext.drewN ?_ _) | (with_reducible refine Ext.drew ?_) | (with_reducible refine Ext.alloc ?_ _) | (with_reducible refine Ext.setCell ?_ ?_ _) | (with_reducible refine Ext.setRow ?_ ?_ _) | (with_reducible exact Nat.le_refl _) | (with_reducible refine Ext.trans ?_ (by assumption)) | omega))) (by omega) (by have := nb; omega)).mono ?_
      rintro e w16 ⟨rfl, hx16⟩
      rw [← HN.out]
      have X16 : Ext w15 w16 := by repeat' (first | (with_reducible exact Ext.refl _) | (with_reducible assumption) | (with_reducible refine Ext.drewN ?_ _) | (with_reducible refine Ext.drew ?_) | (with_reducible refine Ext.alloc ?_ _) | (with_reducible refine Ext.setCell ?_ ?_ _) | (with_reducible refine Ext.setRow ?_ ?_ _) | (with_reducible exact Nat.le_refl _) | (with_reducible refine Ext.trans ?_ (by assumption)) | omega)
      have Z16 := X16.size
      have E16 : Ext w w16 := E15.trans X16
      have Ba := Ba.ext X16
      have gw := gw.ext X16
      have Bx := Bx.ext X16
      have gm := gm.ext X16
      have gh := gh.ext X16
      clear hx16
      clear CBa LBa CBx LBx
      have CBa := Ba.cell; have LBa := Ba.lt
      have CBx := Bx.cell; have LBx := Bx.lt
      go_wp2
      go_ret
      exact ⟨rfl, E16⟩
end Go.Proofs.Ytemhbbpbmgpcaaa
