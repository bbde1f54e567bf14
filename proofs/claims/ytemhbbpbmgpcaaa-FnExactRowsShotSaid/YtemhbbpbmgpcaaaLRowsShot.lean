/- The statement's walk: FnExactRowsShot. -/
import Derived.Test.YtemhbbpbmgpcaaaRS4
set_option linter.unusedSimpArgs false
set_option linter.unusedVariables false
namespace Go.Proofs.Ytemhbbpbmgpcaaa
open Go.RowKit Go.G8

set_option maxHeartbeats 4000000 in
set_option maxRecDepth 100000 in
theorem law_RowsShot (w : World) (s0_0 : Value) (l0_0 : List (List Int)) (h0_0 : Nest 0 w s0_0 (nestInt64S l0_0)) : Calls Try.prog 4 #[s0_0] w (RetV w (.bool true)) := by
  obtain ⟨a0_0, n0_0, k0_0, rfl⟩ := h0_0.shape
  have h0 : RdRows w (.slice a0_0 n0_0 k0_0) l0_0 := h0_0
  obtain ⟨S, hS⟩ : ∃ S : List (List Int), S = l0_0 := ⟨_, rfl⟩
  rw [← hS] at h0
  go_enter Try.func4, Try.ntmps4
  go_wp2_with fail
  refine (sz_Rows (h0.ext (by repeat' (first | (with_reducible exact Ext.refl _) | (with_reducible assumption) | (with_reducible refine Ext.drewN ?_ _) | (with_reducible refine Ext.drew ?_) | (with_reducible refine Ext.alloc ?_ _) | (with_reducible refine Ext.setCell ?_ ?_ _) | (with_reducible refine Ext.setRow ?_ ?_ _) | (with_reducible exact Nat.le_refl _) | (with_reducible refine Ext.trans ?_ (by assumption)) | omega))) (by omega) (by omega)).mono ?_
  rintro e w1 ⟨v1, rfl, hx1, hv1⟩
  have X1 : Ext w w1 := by repeat' (first | (with_reducible exact Ext.refl _) | (with_reducible assumption) | (with_reducible refine Ext.drewN ?_ _) | (with_reducible refine Ext.drew ?_) | (with_reducible refine Ext.alloc ?_ _) | (with_reducible refine Ext.setCell ?_ ?_ _) | (with_reducible refine Ext.setRow ?_ ?_ _) | (with_reducible exact Nat.le_refl _) | (with_reducible refine Ext.trans ?_ (by assumption)) | omega)
  have Z1 := X1.size
  have E1 : Ext w w1 := X1
  clear hx1
  rcases hv1 with ⟨rfl, qz⟩ | ⟨rfl, qz⟩
  · go_wp2; go_ret; exact ⟨rfl, by repeat' (first | (with_reducible exact Ext.refl _) | (with_reducible assumption) | (with_reducible refine Ext.drewN ?_ _) | (with_reducible refine Ext.drew ?_) | (with_reducible refine Ext.alloc ?_ _) | (with_reducible refine Ext.setCell ?_ ?_ _) | (with_reducible refine Ext.setRow ?_ ?_ _) | (with_reducible exact Nat.le_refl _) | (with_reducible refine Ext.trans ?_ (by assumption)) | omega)⟩
  have q0 : rowsSize (nestInt64S S) ≤ 1048576 := by omega
  have nx := numRows_le (l := S) q0
  have nb := rsShot_small S
  have hrl : S.length ≤ 2000000 := Nat.le_trans (rows_len q0) (by decide)
  clear hS h0_0
  go_wp2_with fail
  refine (to_Rows (h0.ext (by repeat' (first | (with_reducible exact Ext.refl _) | (with_reducible assumption) | (with_reducible refine Ext.drewN ?_ _) | (with_reducible refine Ext.drew ?_) | (with_reducible refine Ext.alloc ?_ _) | (with_reducible refine Ext.setCell ?_ ?_ _) | (with_reducible refine Ext.setRow ?_ ?_ _) | (with_reducible exact Nat.le_refl _) | (with_reducible refine Ext.trans ?_ (by assumption)) | omega))) q0).mono ?_
  rintro e w2 ⟨_, rfl, hx2, Fu, gu⟩
  obtain ⟨au0, nu0, ku0, rfl⟩ := gu.rd.shape
  have lu := gu.low; (try simp only [World.size_alloc] at lu)
  have X2 : Ext w1 w2 := by repeat' (first | (with_reducible exact Ext.refl _) | (with_reducible assumption) | (with_reducible refine Ext.drewN ?_ _) | (with_reducible refine Ext.drew ?_) | (with_reducible refine Ext.alloc ?_ _) | (with_reducible refine Ext.setCell ?_ ?_ _) | (with_reducible refine Ext.setRow ?_ ?_ _) | (with_reducible exact Nat.le_refl _) | (with_reducible refine Ext.trans ?_ (by assumption)) | omega)
  have Z2 := X2.size
  have E2 : Ext w w2 := E1.trans X2
  clear hx2
  go_wp2_with fail
  refine (sRowsShot_f ((gu.rd).ext (by repeat' (first | (with_reducible exact Ext.refl _) | (with_reducible assumption) | (with_reducible refine Ext.drewN ?_ _) | (with_reducible refine Ext.drew ?_) | (with_reducible refine Ext.alloc ?_ _) | (with_reducible refine Ext.setCell ?_ ?_ _) | (with_reducible refine Ext.setRow ?_ ?_ _) | (with_reducible exact Nat.le_refl _) | (with_reducible refine Ext.trans ?_ (by assumption)) | omega))) hrl).mono ?_
  rintro e w3 ⟨_, rfl, hx3, vw, rfl, Fw, gw⟩
  obtain ⟨aw3, nw3, kw3, aw4, nw4, kw4, rfl⟩ := gw.rd.shape
  have lw := gw.low; (try simp only [World.size_alloc] at lw)
  have X3 : Ext w2 w3 := by repeat' (first | (with_reducible exact Ext.refl _) | (with_reducible assumption) | (with_reducible refine Ext.drewN ?_ _) | (with_reducible refine Ext.drew ?_) | (with_reducible refine Ext.alloc ?_ _) | (with_reducible refine Ext.setCell ?_ ?_ _) | (with_reducible refine Ext.setRow ?_ ?_ _) | (with_reducible exact Nat.le_refl _) | (with_reducible refine Ext.trans ?_ (by assumption)) | omega)
  have Z3 := X3.size
  have E3 : Ext w w3 := E2.trans X3
  have gu := gu.ext X3
  clear hx3
  go_wp2_with fail
  refine (to_Rows (h0.ext (by repeat' (first | (with_reducible exact Ext.refl _) | (with_reducible assumption) | (with_reducible refine Ext.drewN ?_ _) | (with_reducible refine Ext.drew ?_) | (with_reducible refine Ext.alloc ?_ _) | (with_reducible refine Ext.setCell ?_ ?_ _) | (with_reducible refine Ext.setRow ?_ ?_ _) | (with_reducible exact Nat.le_refl _) | (with_reducible refine Ext.trans ?_ (by assumption)) | omega))) q0).mono ?_
  rintro e w4 ⟨_, rfl, hx4, Fx, gx⟩
  obtain ⟨ax0, nx0, kx0, rfl⟩ := gx.rd.shape
  have lx := gx.low; (try simp only [World.size_alloc] at lx)
  have X4 : Ext w3 w4 := by repeat' (first | (with_reducible exact Ext.refl _) | (with_reducible assumption) | (with_reducible refine Ext.drewN ?_ _) | (with_reducible refine Ext.drew ?_) | (with_reducible refine Ext.alloc ?_ _) | (with_reducible refine Ext.setCell ?_ ?_ _) | (with_reducible refine Ext.setRow ?_ ?_ _) | (with_reducible exact Nat.le_refl _) | (with_reducible refine Ext.trans ?_ (by assumption)) | omega)
  have Bw : Blk w4 w3.heap.size 39 #[.int .i64 (rsShot S).Num, .int .i64 (rsShot S).State.Index, .int .i64 (rsShot S).State.Time, .slice aw3 nw3 kw3, .slice aw4 nw4 kw4, .int .i64 (rsShot S).State.Lease.Holder, .int .i64 (rsShot S).State.Lease.Epoch, .int .i64 (rsShot S).State.Lease.Until] := (Blk.new w3 39 #[.int .i64 (rsShot S).Num, .int .i64 (rsShot S).State.Index, .int .i64 (rsShot S).State.Time, .slice aw3 nw3 kw3, .slice aw4 nw4 kw4, .int .i64 (rsShot S).State.Lease.Holder, .int .i64 (rsShot S).State.Lease.Epoch, .int .i64 (rsShot S).State.Lease.Until]).ext hx4
  have MBw := Bw.lt
  have Z4 := X4.size
  have E4 : Ext w w4 := E3.trans X4
  have gw := gw.ext X4
  clear hx4
  have CBw := Bw.cell; have LBw := Bw.lt
  go_wp2_with fail
  refine (rowsShot_f ((gx.rd).ext (by repeat' (first | (with_reducible exact Ext.refl _) | (with_reducible assumption) | (with_reducible refine Ext.drewN ?_ _) | (with_reducible refine Ext.drew ?_) | (with_reducible refine Ext.alloc ?_ _) | (with_reducible refine Ext.setCell ?_ ?_ _) | (with_reducible refine Ext.setRow ?_ ?_ _) | (with_reducible exact Nat.le_refl _) | (with_reducible refine Ext.trans ?_ (by assumption)) | omega))) hrl).mono ?_
  rintro e w5 ⟨_, rfl, hx5, vg, rfl, Fg, gg⟩
  obtain ⟨ag3, ng3, kg3, ag4, ng4, kg4, rfl⟩ := gg.rd.shape
  have lg := gg.low; (try simp only [World.size_alloc] at lg)
  have X5 : Ext w4 w5 := by repeat' (first | (with_reducible exact Ext.refl _) | (with_reducible assumption) | (with_reducible refine Ext.drewN ?_ _) | (with_reducible refine Ext.drew ?_) | (with_reducible refine Ext.alloc ?_ _) | (with_reducible refine Ext.setCell ?_ ?_ _) | (with_reducible refine Ext.setRow ?_ ?_ _) | (with_reducible exact Nat.le_refl _) | (with_reducible refine Ext.trans ?_ (by assumption)) | omega)
  have Z5 := X5.size
  have E5 : Ext w w5 := E4.trans X5
  have gw := gw.ext X5
  have Bw := Bw.ext X5
  have gx := gx.ext X5
  clear hx5
  clear CBw LBw
  have CBw := Bw.cell; have LBw := Bw.lt
  as_aux_lemma =>
    go_wp2_with fail
    refine (eq_Shot ((gg.rd).ext (by repeat' (first | (with_reducible exact Ext.refl _) | (with_reducible assumption) | (with_reducible refine Ext.drewN ?_ _) | (with_reducible refine Ext.drew ?_) | (with_reducible refine Ext.alloc ?_ _) | (with_reducible refine Ext.setCell ?_ ?_ _) | (with_reducible refine Ext.setRow ?_ ?_ _) | (with_reducible exact Nat.le_refl _) | (with_reducible refine Ext.trans ?_ (by assumption)) | omega))) ((gw.rd).ext (by repeat' (first | (with_reducible exact Ext.refl _) | (with_reducible assumption) | (with_reducible refine Ext.drewN ?_ _) | (with_reducible refine Ext.drew ?_) | (with_reducible refine Ext.alloc ?_ _) | (with_reducible refine Ext.setCell ?_ ?_ _) | (with_reducible refine Ext.setRow ?_ ?_ _) | (with_reducible exact Nat.le_refl _) | (with_reducible refine Ext.trans ?_ (by assumption)) | omega)))).mono ?_
    rintro e w6 ⟨rfl, hx6⟩
    have X6 : Ext w5 w6 := by repeat' (first | (with_reducible exact Ext.refl _) | (with_reducible assumption) | (with_reducible refine Ext.drewN ?_ _) | (with_reducible refine Ext.drew ?_) | (with_reducible refine Ext.alloc ?_ _) | (with_reducible refine Ext.setCell ?_ ?_ _) | (with_reducible refine Ext.setRow ?_ ?_ _) | (with_reducible exact Nat.le_refl _) | (with_reducible refine Ext.trans ?_ (by assumption)) | omega)
    have Bg : Blk w6 w5.heap.size 39 #[.int .i64 (rsShot S).Num, .int .i64 (rsShot S).State.Index, .int .i64 (rsShot S).State.Time, .slice ag3 ng3 kg3, .slice ag4 ng4 kg4, .int .i64 (rsShot S).State.Lease.Holder, .int .i64 (rsShot S).State.Lease.Epoch, .int .i64 (rsShot S).State.Lease.Until] := (Blk.new w5 39 #[.int .i64 (rsShot S).Num, .int .i64 (rsShot S).State.Index, .int .i64 (rsShot S).State.Time, .slice ag3 ng3 kg3, .slice ag4 ng4 kg4, .int .i64 (rsShot S).State.Lease.Holder, .int .i64 (rsShot S).State.Lease.Epoch, .int .i64 (rsShot S).State.Lease.Until]).ext hx6
    have MBg := Bg.lt
    have Z6 := X6.size
    have E6 : Ext w w6 := E5.trans X6
    have gw := gw.ext X6
    have Bw := Bw.ext X6
    have gx := gx.ext X6
    have gg := gg.ext X6
    clear hx6
    clear CBw LBw
    have CBw := Bw.cell; have LBw := Bw.lt
    have CBg := Bg.cell; have LBg := Bg.lt
    go_wp2_with fail
    refine (to_Rows (h0.ext (by repeat' (first | (with_reducible exact Ext.refl _) | (with_reducible assumption) | (with_reducible refine Ext.drewN ?_ _) | (with_reducible refine Ext.drew ?_) | (with_reducible refine Ext.alloc ?_ _) | (with_reducible refine Ext.setCell ?_ ?_ _) | (with_reducible refine Ext.setRow ?_ ?_ _) | (with_reducible exact Nat.le_refl _) | (with_reducible refine Ext.trans ?_ (by assumption)) | omega))) q0).mono ?_
    rintro e w7 ⟨_, rfl, hx7, Fz, gz⟩
    obtain ⟨az0, nz0, kz0, rfl⟩ := gz.rd.shape
    have lz := gz.low; (try simp only [World.size_alloc] at lz)
    have X7 : Ext w6 w7 := by repeat' (first | (with_reducible exact Ext.refl _) | (with_reducible assumption) | (with_reducible refine Ext.drewN ?_ _) | (with_reducible refine Ext.drew ?_) | (with_reducible refine Ext.alloc ?_ _) | (with_reducible refine Ext.setCell ?_ ?_ _) | (with_reducible refine Ext.setRow ?_ ?_ _) | (with_reducible exact Nat.le_refl _) | (with_reducible refine Ext.trans ?_ (by assumption)) | omega)
    have Z7 := X7.size
    have E7 : Ext w w7 := E6.trans X7
    have gw := gw.ext X7
    have Bw := Bw.ext X7
    have gx := gx.ext X7
    have gg := gg.ext X7
    have Bg := Bg.ext X7
    clear hx7
    clear CBw LBw CBg LBg
    have CBw := Bw.cell; have LBw := Bw.lt
    have CBg := Bg.cell; have LBg := Bg.lt
    go_wp2_with fail
    refine (eq_Rows ((gx.rd).ext (by repeat' (first | (with_reducible exact Ext.refl _) | (with_reducible assumption) | (with_reducible refine Ext.drewN ?_ _) | (with_reducible refine Ext.drew ?_) | (with_reducible refine Ext.alloc ?_ _) | (with_reducible refine Ext.setCell ?_ ?_ _) | (with_reducible refine Ext.setRow ?_ ?_ _) | (with_reducible exact Nat.le_refl _) | (with_reducible refine Ext.trans ?_ (by assumption)) | omega))) ((gz.rd).ext (by repeat' (first | (with_reducible exact Ext.refl _) | (with_reducible assumption) | (with_reducible refine Ext.drewN ?_ _) | (with_reducible refine Ext.drew ?_) | (with_reducible refine Ext.alloc ?_ _) | (with_reducible refine Ext.setCell ?_ ?_ _) | (with_reducible refine Ext.setRow ?_ ?_ _) | (with_reducible exact Nat.le_refl _) | (with_reducible refine Ext.trans ?_ (by assumption)) | omega)))).mono ?_
    rintro e w8 ⟨rfl, hx8⟩
    have X8 : Ext w7 w8 := by repeat' (first | (with_reducible exact Ext.refl _) | (with_reducible assumption) | (with_reducible refine Ext.drewN ?_ _) | (with_reducible refine Ext.drew ?_) | (with_reducible refine Ext.alloc ?_ _) | (with_reducible refine Ext.setCell ?_ ?_ _) | (with_reducible refine Ext.setRow ?_ ?_ _) | (with_reducible exact Nat.le_refl _) | (with_reducible refine Ext.trans ?_ (by assumption)) | omega)
    have Z8 := X8.size
    have E8 : Ext w w8 := E7.trans X8
    have gw := gw.ext X8
    have Bw := Bw.ext X8
    have gx := gx.ext X8
    have gg := gg.ext X8
    have Bg := Bg.ext X8
    clear hx8
    clear CBw LBw CBg LBg
    have CBw := Bw.cell; have LBw := Bw.lt
    have CBg := Bg.cell; have LBg := Bg.lt
    as_aux_lemma =>
      go_wp2_with fail
      refine (mark_Rows (gx.ext (by repeat' (first | (with_reducible exact Ext.refl _) | (with_reducible assumption) | (with_reducible refine Ext.drewN ?_ _) | (with_reducible refine Ext.drew ?_) | (with_reducible refine Ext.alloc ?_ _) | (with_reducible refine Ext.setCell ?_ ?_ _) | (with_reducible refine Ext.setRow ?_ ?_ _) | (with_reducible exact Nat.le_refl _) | (with_reducible refine Ext.trans ?_ (by assumption)) | omega))) (by omega) (by have := nx; omega)).mono ?_
      rintro e w9 ⟨rfl, hx9, gxm⟩
      have X9 : Upd w8 w9 Fx := (Ext.upd (by repeat' (first | (with_reducible exact Ext.refl _) | (with_reducible assumption) | (with_reducible refine Ext.drewN ?_ _) | (with_reducible refine Ext.drew ?_) | (with_reducible refine Ext.alloc ?_ _) | (with_reducible refine Ext.setCell ?_ ?_ _) | (with_reducible refine Ext.setRow ?_ ?_ _) | (with_reducible exact Nat.le_refl _) | (with_reducible refine Ext.trans ?_ (by assumption)) | omega)) _).trans hx9
      have Z9 := X9.size
      have E9 : Ext w w9 := E8.upd_below X9 (fun k hk => by have := lx k hk; omega)
      have gw := gw.upd X9 (fun k hk hk' => by have := lx k hk'; have := lw k hk; omega)
      have Bw := Bw.upd X9 (fun hk => by have := lx _ hk; omega)
      have gg := gg.upd X9 (fun k hk hk' => by have := lx k hk'; have := lg k hk; omega)
      have Bg := Bg.upd X9 (fun hk => by have := lx _ hk; omega)
      obtain ⟨K, hK⟩ : ∃ z : Int, z = 1 + ((numRows (S) : Nat) : Int) := ⟨_, rfl⟩
      rw [← hK]
      have pK : 0 ≤ K := by omega
      have rK : K ≤ 1000000000 := by have := nx; omega
      have HK := Lib.hid hK
      clear hK
      have dK : decide (K < 0) = false := by simp; omega
      clear hx9
      clear CBw LBw CBg LBg
      have CBw := Bw.cell; have LBw := Bw.lt
      have CBg := Bg.cell; have LBg := Bg.lt
      go_wp2_with fail
      refine (eq_Shot ((gg.rd).ext (by repeat' (first | (with_reducible exact Ext.refl _) | (with_reducible assumption) | (with_reducible refine Ext.drewN ?_ _) | (with_reducible refine Ext.drew ?_) | (with_reducible refine Ext.alloc ?_ _) | (with_reducible refine Ext.setCell ?_ ?_ _) | (with_reducible refine Ext.setRow ?_ ?_ _) | (with_reducible exact Nat.le_refl _) | (with_reducible refine Ext.trans ?_ (by assumption)) | omega))) ((gw.rd).ext (by repeat' (first | (with_reducible exact Ext.refl _) | (with_reducible assumption) | (with_reducible refine Ext.drewN ?_ _) | (with_reducible refine Ext.drew ?_) | (with_reducible refine Ext.alloc ?_ _) | (with_reducible refine Ext.setCell ?_ ?_ _) | (with_reducible refine Ext.setRow ?_ ?_ _) | (with_reducible exact Nat.le_refl _) | (with_reducible refine Ext.trans ?_ (by assumption)) | omega)))).mono ?_
      rintro e w10 ⟨rfl, hx10⟩
      have X10 : Ext w9 w10 := by repeat' (first | (with_reducible exact Ext.refl _) | (with_reducible assumption) | (with_reducible refine Ext.drewN ?_ _) | (with_reducible refine Ext.drew ?_) | (with_reducible refine Ext.alloc ?_ _) | (with_reducible refine Ext.setCell ?_ ?_ _) | (with_reducible refine Ext.setRow ?_ ?_ _) | (with_reducible exact Nat.le_refl _) | (with_reducible refine Ext.trans ?_ (by assumption)) | omega)
      have Z10 := X10.size
      have E10 : Ext w w10 := E9.trans X10
      have gw := gw.ext X10
      have Bw := Bw.ext X10
      have gg := gg.ext X10
      have Bg := Bg.ext X10
      clear hx10
      clear CBw LBw CBg LBg
      have CBw := Bw.cell; have LBw := Bw.lt
      have CBg := Bg.cell; have LBg := Bg.lt
      go_wp2_with fail
      refine (mark_Shot (gg.ext (by repeat' (first | (with_reducible exact Ext.refl _) | (with_reducible assumption) | (with_reducible refine Ext.drewN ?_ _) | (with_reducible refine Ext.drew ?_) | (with_reducible refine Ext.alloc ?_ _) | (with_reducible refine Ext.setCell ?_ ?_ _) | (with_reducible refine Ext.setRow ?_ ?_ _) | (with_reducible exact Nat.le_refl _) | (with_reducible refine Ext.trans ?_ (by assumption)) | omega))) (by omega) (by have := nb; omega)).mono ?_
      rintro e w11 ⟨rfl, hx11, gm⟩
      have X11 : Upd w10 w11 Fg := (Ext.upd (by repeat' (first | (with_reducible exact Ext.refl _) | (with_reducible assumption) | (with_reducible refine Ext.drewN ?_ _) | (with_reducible refine Ext.drew ?_) | (with_reducible refine Ext.alloc ?_ _) | (with_reducible refine Ext.setCell ?_ ?_ _) | (with_reducible refine Ext.setRow ?_ ?_ _) | (with_reducible exact Nat.le_refl _) | (with_reducible refine Ext.trans ?_ (by assumption)) | omega)) _).trans hx11
      have Z11 := X11.size
      have E11 : Ext w w11 := E10.upd_below X11 (fun k hk => by have := lg k hk; omega)
      have gw := gw.upd X11 (fun k hk hk' => by have := lg k hk'; have := lw k hk; omega)
      have Bw := Bw.upd X11 (fun hk => by have := lg _ hk; omega)
      have Bg := Bg.upd X11 (fun hk => by have := lg _ hk; omega)
      obtain ⟨N, hN⟩ : ∃ z : Int, z = 1 + ((numShot (rsShot S) : Nat) : Int) := ⟨_, rfl⟩
      rw [← hN]
      have pN : 0 ≤ N := by omega
      have rN : N ≤ 1000000000 := by have := nb; omega
      have HN := Lib.hid hN
      clear hN
      have dN : decide (N < 0) = false := by simp; omega
      clear hx11
      clear CBw LBw CBg LBg
      have CBw := Bw.cell; have LBw := Bw.lt
      have CBg := Bg.cell; have LBg := Bg.lt
      go_wp2_with fail
      refine (held_Shot (gm.ext (by repeat' (first | (with_reducible exact Ext.refl _) | (with_reducible assumption) | (with_reducible refine Ext.drewN ?_ _) | (with_reducible refine Ext.drew ?_) | (with_reducible refine Ext.alloc ?_ _) | (with_reducible refine Ext.setCell ?_ ?_ _) | (with_reducible refine Ext.setRow ?_ ?_ _) | (with_reducible exact Nat.le_refl _) | (with_reducible refine Ext.trans ?_ (by assumption)) | omega))) (by omega) (by have := nb; omega)).mono ?_
      rintro e w12 ⟨rfl, hx12⟩
      rw [← HN.out]
      have X12 : Ext w11 w12 := by repeat' (first | (with_reducible exact Ext.refl _) | (with_reducible assumption) | (with_reducible refine Ext.drewN ?_ _) | (with_reducible refine Ext.drew ?_) | (with_reducible refine Ext.alloc ?_ _) | (with_reducible refine Ext.setCell ?_ ?_ _) | (with_reducible refine Ext.setRow ?_ ?_ _) | (with_reducible exact Nat.le_refl _) | (with_reducible refine Ext.trans ?_ (by assumption)) | omega)
      have Z12 := X12.size
      have E12 : Ext w w12 := E11.trans X12
      have gw := gw.ext X12
      have Bw := Bw.ext X12
      have Bg := Bg.ext X12
      have gm := gm.ext X12
      clear hx12
      clear CBw LBw CBg LBg
      have CBw := Bw.cell; have LBw := Bw.lt
      have CBg := Bg.cell; have LBg := Bg.lt
      go_wp2_with fail
      refine (to_Rows (h0.ext (by repeat' (first | (with_reducible exact Ext.refl _) | (with_reducible assumption) | (with_reducible refine Ext.drewN ?_ _) | (with_reducible refine Ext.drew ?_) | (with_reducible refine Ext.alloc ?_ _) | (with_reducible refine Ext.setCell ?_ ?_ _) | (with_reducible refine Ext.setRow ?_ ?_ _) | (with_reducible exact Nat.le_refl _) | (with_reducible refine Ext.trans ?_ (by assumption)) | omega))) q0).mono ?_
      rintro e w13 ⟨_, rfl, hx13, Fy, gy⟩
      obtain ⟨ay0, ny0, ky0, rfl⟩ := gy.rd.shape
      have ly := gy.low; (try simp only [World.size_alloc] at ly)
      have X13 : Ext w12 w13 := by repeat' (first | (with_reducible exact Ext.refl _) | (with_reducible assumption) | (with_reducible refine Ext.drewN ?_ _) | (with_reducible refine Ext.drew ?_) | (with_reducible refine Ext.alloc ?_ _) | (with_reducible refine Ext.setCell ?_ ?_ _) | (with_reducible refine Ext.setRow ?_ ?_ _) | (with_reducible exact Nat.le_refl _) | (with_reducible refine Ext.trans ?_ (by assumption)) | omega)
      have Z13 := X13.size
      have E13 : Ext w w13 := E12.trans X13
      have gw := gw.ext X13
      have Bw := Bw.ext X13
      have Bg := Bg.ext X13
      have gm := gm.ext X13
      clear hx13
      clear CBw LBw CBg LBg
      have CBw := Bw.cell; have LBw := Bw.lt
      have CBg := Bg.cell; have LBg := Bg.lt
      go_wp2_with fail
      refine (rowsShot_f ((gy.rd).ext (by repeat' (first | (with_reducible exact Ext.refl _) | (with_reducible assumption) | (with_reducible refine Ext.drewN ?_ _) | (with_reducible refine Ext.drew ?_) | (with_reducible refine Ext.alloc ?_ _) | (with_reducible refine Ext.setCell ?_ ?_ _) | (with_reducible refine Ext.setRow ?_ ?_ _) | (with_reducible exact Nat.le_refl _) | (with_reducible refine Ext.trans ?_ (by assumption)) | omega))) hrl).mono ?_
      rintro e w14 ⟨_, rfl, hx14, vh, rfl, Fh, gh⟩
      obtain ⟨ah3, nh3, kh3, ah4, nh4, kh4, rfl⟩ := gh.rd.shape
      have lh := gh.low; (try simp only [World.size_alloc] at lh)
      have X14 : Ext w13 w14 := by repeat' (first | (with_reducible exact Ext.refl _) | (with_reducible assumption) | (with_reducible refine Ext.drewN ?_ _) | (with_reducible refine Ext.drew ?_) | (with_reducible refine Ext.alloc ?_ _) | (with_reducible refine Ext.setCell ?_ ?_ _) | (with_reducible refine Ext.setRow ?_ ?_ _) | (with_reducible exact Nat.le_refl _) | (with_reducible refine Ext.trans ?_ (by assumption)) | omega)
      have Z14 := X14.size
      have E14 : Ext w w14 := E13.trans X14
      have gw := gw.ext X14
      have Bw := Bw.ext X14
      have Bg := Bg.ext X14
      have gm := gm.ext X14
      have gy := gy.ext X14
      clear hx14
      clear CBw LBw CBg LBg
      have CBw := Bw.cell; have LBw := Bw.lt
      have CBg := Bg.cell; have LBg := Bg.lt
      go_wp2_with fail
      refine (eq_Shot ((gh.rd).ext (by repeat' (first | (with_reducible exact Ext.refl _) | (with_reducible assumption) | (with_reducible refine Ext.drewN ?_ _) | (with_reducible refine Ext.drew ?_) | (with_reducible refine Ext.alloc ?_ _) | (with_reducible refine Ext.setCell ?_ ?_ _) | (with_reducible refine Ext.setRow ?_ ?_ _) | (with_reducible exact Nat.le_refl _) | (with_reducible refine Ext.trans ?_ (by assumption)) | omega))) ((gw.rd).ext (by repeat' (first | (with_reducible exact Ext.refl _) | (with_reducible assumption) | (with_reducible refine Ext.drewN ?_ _) | (with_reducible refine Ext.drew ?_) | (with_reducible refine Ext.alloc ?_ _) | (with_reducible refine Ext.setCell ?_ ?_ _) | (with_reducible refine Ext.setRow ?_ ?_ _) | (with_reducible exact Nat.le_refl _) | (with_reducible refine Ext.trans ?_ (by assumption)) | omega)))).mono ?_
      rintro e w15 ⟨rfl, hx15⟩
      have X15 : Ext w14 w15 := by repeat' (first | (with_reducible exact Ext.refl _) | (with_reducible assumption) | (with_reducible refine Ext.drewN ?_ _) | (with_reducible refine Ext.drew ?_) | (with_reducible refine Ext.alloc ?_ _) | (with_reducible refine Ext.setCell ?_ ?_ _) | (with_reducible refine Ext.setRow ?_ ?_ _) | (with_reducible exact Nat.le_refl _) | (with_reducible refine Ext.trans ?_ (by assumption)) | omega)
      have Bh : Blk w15 w14.heap.size 39 #[.int .i64 (rsShot S).Num, .int .i64 (rsShot S).State.Index, .int .i64 (rsShot S).State.Time, .slice ah3 nh3 kh3, .slice ah4 nh4 kh4, .int .i64 (rsShot S).State.Lease.Holder, .int .i64 (rsShot S).State.Lease.Epoch, .int .i64 (rsShot S).State.Lease.Until] := (Blk.new w14 39 #[.int .i64 (rsShot S).Num, .int .i64 (rsShot S).State.Index, .int .i64 (rsShot S).State.Time, .slice ah3 nh3 kh3, .slice ah4 nh4 kh4, .int .i64 (rsShot S).State.Lease.Holder, .int .i64 (rsShot S).State.Lease.Epoch, .int .i64 (rsShot S).State.Lease.Until]).ext hx15
      have MBh := Bh.lt
      have Z15 := X15.size
      have E15 : Ext w w15 := E14.trans X15
      have gw := gw.ext X15
      have Bw := Bw.ext X15
      have Bg := Bg.ext X15
      have gm := gm.ext X15
      have gh := gh.ext X15
      clear hx15
      clear CBw LBw CBg LBg
      have CBw := Bw.cell; have LBw := Bw.lt
      have CBg := Bg.cell; have LBg := Bg.lt
      have CBh := Bh.cell; have LBh := Bh.lt
      go_wp2_with fail
      refine (held_Shot (gm.ext (by repeat' (first | (with_reducible exact Ext.refl _) | (with_reducible assumption) | (with_reducible refine Ext.drewN ?_ _) | (with_reducible refine Ext.drew ?_) | (with_reducible refine Ext.alloc ?_ _) | (with_reducible refine Ext.setCell ?_ ?_ _) | (with_reducible refine Ext.setRow ?_ ?_ _) | (with_reducible exact Nat.le_refl _) | (with_reducible refine Ext.trans ?_ (by assumption)) | omega))) (by omega) (by have := nb; omega)).mono ?_
      rintro e w16 ⟨rfl, hx16⟩
      rw [← HN.out]
      have X16 : Ext w15 w16 := by repeat' (first | (with_reducible exact Ext.refl _) | (with_reducible assumption) | (with_reducible refine Ext.drewN ?_ _) | (with_reducible refine Ext.drew ?_) | (with_reducible refine Ext.alloc ?_ _) | (with_reducible refine Ext.setCell ?_ ?_ _) | (with_reducible refine Ext.setRow ?_ ?_ _) | (with_reducible exact Nat.le_refl _) | (with_reducible refine Ext.trans ?_ (by assumption)) | omega)
      have Z16 := X16.size
      have E16 : Ext w w16 := E15.trans X16
      have gw := gw.ext X16
      have Bw := Bw.ext X16
      have Bg := Bg.ext X16
      have gm := gm.ext X16
      have gh := gh.ext X16
      have Bh := Bh.ext X16
      clear hx16
      clear CBw LBw CBg LBg CBh LBh
      have CBw := Bw.cell; have LBw := Bw.lt
      have CBg := Bg.cell; have LBg := Bg.lt
      have CBh := Bh.cell; have LBh := Bh.lt
      go_wp2
      go_ret
      exact ⟨rfl, E16⟩
end Go.Proofs.Ytemhbbpbmgpcaaa
