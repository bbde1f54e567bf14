/- The statement's walk: FnExactNewSched. -/
import Derived.Test.YtfeddckbbhgpfaaV14
import Derived.Test.YtfeddckbbhgpfaaHelpB
namespace Go.Proofs.Ytfeddckbbhgpfaa
open Go.RowKit Go.G8

set_option maxHeartbeats 4000000 in
set_option maxRecDepth 100000 in
theorem law_NewSched (w : World) (c0_0 : Int) : Calls Try.prog 6 #[.int .i64 c0_0] w (RetV w (.bool true)) := by
  go_enter Try.func6, Try.ntmps6
  go_wp2_with fail
  refine (sNewSched_c _ _ ).mono ?_
  rintro e w1 ⟨_, rfl, hx1, ⟨tw0_7, rfl, gw0_7⟩⟩
  have X1 : Ext w w1 := by repeat' (first | (with_reducible exact Ext.refl _) | (with_reducible assumption) | (with_reducible refine Ext.drewN ?_ _) | (with_reducible refine Ext.drew ?_) | (with_reducible refine Ext.alloc ?_ _) | (with_reducible refine Ext.setCell ?_ ?_ _) | (with_reducible exact Nat.le_refl _) | (with_reducible refine Ext.trans ?_ (by assumption)) | omega)
  have Z1 := X1.size
  have E1 : Ext w w1 := X1
  clear hx1
  obtain ⟨aw0_7, nw0_7, kw0_7, rfl⟩ := gw0_7.shape
  have bw0_7 := gw0_7.foot; (try simp only [World.size_alloc] at bw0_7)
  go_wp2_with fail
  refine (newSched_c _ _ ).mono ?_
  rintro e w2 ⟨_, rfl, hx2, ⟨tg0_7, rfl, gg0_7⟩⟩
  have X2 : Ext w1 w2 := by repeat' (first | (with_reducible exact Ext.refl _) | (with_reducible assumption) | (with_reducible refine Ext.drewN ?_ _) | (with_reducible refine Ext.drew ?_) | (with_reducible refine Ext.alloc ?_ _) | (with_reducible refine Ext.setCell ?_ ?_ _) | (with_reducible exact Nat.le_refl _) | (with_reducible refine Ext.trans ?_ (by assumption)) | omega)
  have Bw0 : Blk w2 w1.heap.size 50 #[.int .i64 (newSched c0_0).Id, .int .i64 (newSched c0_0).Seq, .int .i64 (newSched c0_0).View.Jobs.Index, .int .i64 (newSched c0_0).View.Jobs.Time, .int .i64 (newSched c0_0).View.Jobs.Holder, .int .i64 (newSched c0_0).View.Jobs.Epoch, .int .i64 (newSched c0_0).View.Jobs.Until, .slice aw0_7 nw0_7 kw0_7, .bool (newSched c0_0).Busy, .int .i64 (newSched c0_0).Op.Kind, .int .i64 (newSched c0_0).Op.A, .int .i64 (newSched c0_0).Op.B, .int .i64 (newSched c0_0).Op.C, .int .i64 (newSched c0_0).Op.D, .int .i64 (newSched c0_0).Index] := (Blk.new w1 50 #[.int .i64 (newSched c0_0).Id, .int .i64 (newSched c0_0).Seq, .int .i64 (newSched c0_0).View.Jobs.Index, .int .i64 (newSched c0_0).View.Jobs.Time, .int .i64 (newSched c0_0).View.Jobs.Holder, .int .i64 (newSched c0_0).View.Jobs.Epoch, .int .i64 (newSched c0_0).View.Jobs.Until, .slice aw0_7 nw0_7 kw0_7, .bool (newSched c0_0).Busy, .int .i64 (newSched c0_0).Op.Kind, .int .i64 (newSched c0_0).Op.A, .int .i64 (newSched c0_0).Op.B, .int .i64 (newSched c0_0).Op.C, .int .i64 (newSched c0_0).Op.D, .int .i64 (newSched c0_0).Index]).ext (by repeat' (first | (with_reducible exact Ext.refl _) | (with_reducible assumption) | (with_reducible refine Ext.drewN ?_ _) | (with_reducible refine Ext.drew ?_) | (with_reducible refine Ext.alloc ?_ _) | (with_reducible refine Ext.setCell ?_ ?_ _) | (with_reducible exact Nat.le_refl _) | (with_reducible refine Ext.trans ?_ (by assumption)) | omega))
  have MBw0 := Bw0.lt
  have Z2 := X2.size
  have E2 : Ext w w2 := E1.trans X2
  have gw0_7 := gw0_7.ext X2
  clear hx2
  have CBw0 := Bw0.cell; have LBw0 := Bw0.lt
  obtain ⟨ag0_7, ng0_7, kg0_7, rfl⟩ := gg0_7.shape
  have bg0_7 := gg0_7.foot; (try simp only [World.size_alloc] at bg0_7)
  as_aux_lemma =>
    go_wp2_with fail
    refine (eqSched_c _ _ _ _ _ _ _ _ _ _ _ _ _ _ _ _ _ _ ((gg0_7.ints).ext (by repeat' (first | (with_reducible exact Ext.refl _) | (with_reducible assumption) | (with_reducible refine Ext.drewN ?_ _) | (with_reducible refine Ext.drew ?_) | (with_reducible refine Ext.alloc ?_ _) | (with_reducible refine Ext.setCell ?_ ?_ _) | (with_reducible exact Nat.le_refl _) | (with_reducible refine Ext.trans ?_ (by assumption)) | omega))) ((gw0_7.ints).ext (by repeat' (first | (with_reducible exact Ext.refl _) | (with_reducible assumption) | (with_reducible refine Ext.drewN ?_ _) | (with_reducible refine Ext.drew ?_) | (with_reducible refine Ext.alloc ?_ _) | (with_reducible refine Ext.setCell ?_ ?_ _) | (with_reducible exact Nat.le_refl _) | (with_reducible refine Ext.trans ?_ (by assumption)) | omega)))).mono ?_
    rintro e w3 ⟨rfl, hx3⟩
    have X3 : Ext w2 w3 := by repeat' (first | (with_reducible exact Ext.refl _) | (with_reducible assumption) | (with_reducible refine Ext.drewN ?_ _) | (with_reducible refine Ext.drew ?_) | (with_reducible refine Ext.alloc ?_ _) | (with_reducible refine Ext.setCell ?_ ?_ _) | (with_reducible exact Nat.le_refl _) | (with_reducible refine Ext.trans ?_ (by assumption)) | omega)
    have Bg0 : Blk w3 w2.heap.size 50 #[.int .i64 (newSched c0_0).Id, .int .i64 (newSched c0_0).Seq, .int .i64 (newSched c0_0).View.Jobs.Index, .int .i64 (newSched c0_0).View.Jobs.Time, .int .i64 (newSched c0_0).View.Jobs.Holder, .int .i64 (newSched c0_0).View.Jobs.Epoch, .int .i64 (newSched c0_0).View.Jobs.Until, .slice ag0_7 ng0_7 kg0_7, .bool (newSched c0_0).Busy, .int .i64 (newSched c0_0).Op.Kind, .int .i64 (newSched c0_0).Op.A, .int .i64 (newSched c0_0).Op.B, .int .i64 (newSched c0_0).Op.C, .int .i64 (newSched c0_0).Op.D, .int .i64 (newSched c0_0).Index] := (Blk.new w2 50 #[.int .i64 (newSched c0_0).Id, .int .i64 (newSched c0_0).Seq, .int .i64 (newSched c0_0).View.Jobs.Index, .int .i64 (newSched c0_0).View.Jobs.Time, .int .i64 (newSched c0_0).View.Jobs.Holder, .int .i64 (newSched c0_0).View.Jobs.Epoch, .int .i64 (newSched c0_0).View.Jobs.Until, .slice ag0_7 ng0_7 kg0_7, .bool (newSched c0_0).Busy, .int .i64 (newSched c0_0).Op.Kind, .int .i64 (newSched c0_0).Op.A, .int .i64 (newSched c0_0).Op.B, .int .i64 (newSched c0_0).Op.C, .int .i64 (newSched c0_0).Op.D, .int .i64 (newSched c0_0).Index]).ext (by repeat' (first | (with_reducible exact Ext.refl _) | (with_reducible assumption) | (with_reducible refine Ext.drewN ?_ _) | (with_reducible refine Ext.drew ?_) | (with_reducible refine Ext.alloc ?_ _) | (with_reducible refine Ext.setCell ?_ ?_ _) | (with_reducible exact Nat.le_refl _) | (with_reducible refine Ext.trans ?_ (by assumption)) | omega))
    have MBg0 := Bg0.lt
    have Z3 := X3.size
    have E3 : Ext w w3 := E2.trans X3
    have gw0_7 := gw0_7.ext X3
    have Bw0 := Bw0.ext X3
    have gg0_7 := gg0_7.ext X3
    clear hx3
    clear CBw0 LBw0
    have CBw0 := Bw0.cell; have LBw0 := Bw0.lt
    have CBg0 := Bg0.cell; have LBg0 := Bg0.lt
    as_aux_lemma =>
      have hsm : ((newSched c0_0).View.Jobs.Open.length * 2 : Nat) ≤ 4611686018427387000 := by have := newSched_len c0_0; omega
      go_wp2_with fail
      refine (markSched_c _ _ _ _ _ _ _ _ _ _ _ _ (length_dues _) _ _ _ _ _ _ _ 1 (gg0_7.ext (by repeat' (first | (with_reducible exact Ext.refl _) | (with_reducible assumption) | (with_reducible refine Ext.drewN ?_ _) | (with_reducible refine Ext.drew ?_) | (with_reducible refine Ext.alloc ?_ _) | (with_reducible refine Ext.setCell ?_ ?_ _) | (with_reducible exact Nat.le_refl _) | (with_reducible refine Ext.trans ?_ (by assumption)) | omega))) (by omega) (by omega)).mono ?_
      rintro e w4 ⟨rfl, hx4, gg0_7m⟩
      have X4 : Upd w3 w4 (feet [.slice ag0_7 ng0_7 kg0_7]) := (Ext.upd (by repeat' (first | (with_reducible exact Ext.refl _) | (with_reducible assumption) | (with_reducible refine Ext.drewN ?_ _) | (with_reducible refine Ext.drew ?_) | (with_reducible refine Ext.alloc ?_ _) | (with_reducible refine Ext.setCell ?_ ?_ _) | (with_reducible exact Nat.le_refl _) | (with_reducible refine Ext.trans ?_ (by assumption)) | omega)) _).trans hx4
      have Z4 := X4.size
      have E4 : Ext w w4 := E3.upd_below X4 (fun k hk => by have := bg0_7 k hk; omega)
      have gw0_7 := OwnI.upd' gw0_7 X4 (fun k hk hk' => by have := bg0_7 k hk'; have := bw0_7 k hk; omega)
      have Bw0 := Bw0.upd X4 (fun hk => by have := bg0_7 _ hk; omega)
      have Bg0 := Bg0.upd X4 (fun hk => by have := bg0_7 _ hk; omega)
      have gg0_7 := gg0_7m; clear gg0_7m
      clear hx4
      clear CBw0 LBw0 CBg0 LBg0
      have CBw0 := Bw0.cell; have LBw0 := Bw0.lt
      have CBg0 := Bg0.cell; have LBg0 := Bg0.lt
      obtain ⟨N, hN⟩ : ∃ z : Int, z = 1 + (((newSched c0_0).View.Jobs.Open.length * 2 : Nat) : Int) := ⟨_, rfl⟩
      rw [← hN]
      have pN : 0 ≤ N := by omega
      have HN := Lib.hid hN; clear hN; have dN : decide (N < 0) = false := by simp; omega
      go_wp2_with fail
      refine (heldSched_c _ _ _ _ _ _ _ _ _ (newSched c0_0).View.Jobs.Open.length _ _ _ _ _ _ _ 1 (gg0_7.ints.ext (by repeat' (first | (with_reducible exact Ext.refl _) | (with_reducible assumption) | (with_reducible refine Ext.drewN ?_ _) | (with_reducible refine Ext.drew ?_) | (with_reducible refine Ext.alloc ?_ _) | (with_reducible refine Ext.setCell ?_ ?_ _) | (with_reducible exact Nat.le_refl _) | (with_reducible refine Ext.trans ?_ (by assumption)) | omega))) (by omega) (by omega)).mono ?_
      rintro e w5 ⟨rfl, hx5⟩
      have X5 : Ext w4 w5 := by repeat' (first | (with_reducible exact Ext.refl _) | (with_reducible assumption) | (with_reducible refine Ext.drewN ?_ _) | (with_reducible refine Ext.drew ?_) | (with_reducible refine Ext.alloc ?_ _) | (with_reducible refine Ext.setCell ?_ ?_ _) | (with_reducible exact Nat.le_refl _) | (with_reducible refine Ext.trans ?_ (by assumption)) | omega)
      have Z5 := X5.size
      have E5 : Ext w w5 := E4.trans X5
      have gw0_7 := gw0_7.ext X5
      have Bw0 := Bw0.ext X5
      have gg0_7 := gg0_7.ext X5
      have Bg0 := Bg0.ext X5
      clear hx5
      clear CBw0 LBw0 CBg0 LBg0
      have CBw0 := Bw0.cell; have LBw0 := Bw0.lt
      have CBg0 := Bg0.cell; have LBg0 := Bg0.lt
      rw [← HN.out]
      as_aux_lemma =>
        go_wp2_with fail
        refine (newSched_c _ _ ).mono ?_
        rintro e w6 ⟨_, rfl, hx6, ⟨th0_7, rfl, gh0_7⟩⟩
        have X6 : Ext w5 w6 := by repeat' (first | (with_reducible exact Ext.refl _) | (with_reducible assumption) | (with_reducible refine Ext.drewN ?_ _) | (with_reducible refine Ext.drew ?_) | (with_reducible refine Ext.alloc ?_ _) | (with_reducible refine Ext.setCell ?_ ?_ _) | (with_reducible exact Nat.le_refl _) | (with_reducible refine Ext.trans ?_ (by assumption)) | omega)
        have Z6 := X6.size
        have E6 : Ext w w6 := E5.trans X6
        have gw0_7 := gw0_7.ext X6
        have Bw0 := Bw0.ext X6
        have gg0_7 := gg0_7.ext X6
        have Bg0 := Bg0.ext X6
        clear hx6
        clear CBw0 LBw0 CBg0 LBg0
        have CBw0 := Bw0.cell; have LBw0 := Bw0.lt
        have CBg0 := Bg0.cell; have LBg0 := Bg0.lt
        obtain ⟨ah0_7, nh0_7, kh0_7, rfl⟩ := gh0_7.shape
        have bh0_7 := gh0_7.foot; (try simp only [World.size_alloc] at bh0_7)
        go_wp2_with fail
        refine (eqSched_c _ _ _ _ _ _ _ _ _ _ _ _ _ _ _ _ _ _ ((gh0_7.ints).ext (by repeat' (first | (with_reducible exact Ext.refl _) | (with_reducible assumption) | (with_reducible refine Ext.drewN ?_ _) | (with_reducible refine Ext.drew ?_) | (with_reducible refine Ext.alloc ?_ _) | (with_reducible refine Ext.setCell ?_ ?_ _) | (with_reducible exact Nat.le_refl _) | (with_reducible refine Ext.trans ?_ (by assumption)) | omega))) ((gw0_7.ints).ext (by repeat' (first | (with_reducible exact Ext.refl _) | (with_reducible assumption) | (with_reducible refine Ext.drewN ?_ _) | (with_reducible refine Ext.drew ?_) | (with_reducible refine Ext.alloc ?_ _) | (with_reducible refine Ext.setCell ?_ ?_ _) | (with_reducible exact Nat.le_refl _) | (with_reducible refine Ext.trans ?_ (by assumption)) | omega)))).mono ?_
        rintro e w7 ⟨rfl, hx7⟩
        have X7 : Ext w6 w7 := by repeat' (first | (with_reducible exact Ext.refl _) | (with_reducible assumption) | (with_reducible refine Ext.drewN ?_ _) | (with_reducible refine Ext.drew ?_) | (with_reducible refine Ext.alloc ?_ _) | (with_reducible refine Ext.setCell ?_ ?_ _) | (with_reducible exact Nat.le_refl _) | (with_reducible refine Ext.trans ?_ (by assumption)) | omega)
        have Bh0 : Blk w7 w6.heap.size 50 #[.int .i64 (newSched c0_0).Id, .int .i64 (newSched c0_0).Seq, .int .i64 (newSched c0_0).View.Jobs.Index, .int .i64 (newSched c0_0).View.Jobs.Time, .int .i64 (newSched c0_0).View.Jobs.Holder, .int .i64 (newSched c0_0).View.Jobs.Epoch, .int .i64 (newSched c0_0).View.Jobs.Until, .slice ah0_7 nh0_7 kh0_7, .bool (newSched c0_0).Busy, .int .i64 (newSched c0_0).Op.Kind, .int .i64 (newSched c0_0).Op.A, .int .i64 (newSched c0_0).Op.B, .int .i64 (newSched c0_0).Op.C, .int .i64 (newSched c0_0).Op.D, .int .i64 (newSched c0_0).Index] := (Blk.new w6 50 #[.int .i64 (newSched c0_0).Id, .int .i64 (newSched c0_0).Seq, .int .i64 (newSched c0_0).View.Jobs.Index, .int .i64 (newSched c0_0).View.Jobs.Time, .int .i64 (newSched c0_0).View.Jobs.Holder, .int .i64 (newSched c0_0).View.Jobs.Epoch, .int .i64 (newSched c0_0).View.Jobs.Until, .slice ah0_7 nh0_7 kh0_7, .bool (newSched c0_0).Busy, .int .i64 (newSched c0_0).Op.Kind, .int .i64 (newSched c0_0).Op.A, .int .i64 (newSched c0_0).Op.B, .int .i64 (newSched c0_0).Op.C, .int .i64 (newSched c0_0).Op.D, .int .i64 (newSched c0_0).Index]).ext (by repeat' (first | (with_reducible exact Ext.refl _) | (with_reducible assumption) | (with_reducible refine Ext.drewN ?_ _) | (with_reducible refine Ext.drew ?_) | (with_reducible refine Ext.alloc ?_ _) | (with_reducible refine Ext.setCell ?_ ?_ _) | (with_reducible exact Nat.le_refl _) | (with_reducible refine Ext.trans ?_ (by assumption)) | omega))
        have MBh0 := Bh0.lt
        have Z7 := X7.size
        have E7 : Ext w w7 := E6.trans X7
        have gw0_7 := gw0_7.ext X7
        have Bw0 := Bw0.ext X7
        have gg0_7 := gg0_7.ext X7
        have Bg0 := Bg0.ext X7
        have gh0_7 := gh0_7.ext X7
        clear hx7
        clear CBw0 LBw0 CBg0 LBg0
        have CBw0 := Bw0.cell; have LBw0 := Bw0.lt
        have CBg0 := Bg0.cell; have LBg0 := Bg0.lt
        have CBh0 := Bh0.cell; have LBh0 := Bh0.lt
        go_wp2_with fail
        refine (heldSched_c _ _ _ _ _ _ _ _ _ (newSched c0_0).View.Jobs.Open.length _ _ _ _ _ _ _ 1 (gg0_7.ints.ext (by repeat' (first | (with_reducible exact Ext.refl _) | (with_reducible assumption) | (with_reducible refine Ext.drewN ?_ _) | (with_reducible refine Ext.drew ?_) | (with_reducible refine Ext.alloc ?_ _) | (with_reducible refine Ext.setCell ?_ ?_ _) | (with_reducible exact Nat.le_refl _) | (with_reducible refine Ext.trans ?_ (by assumption)) | omega))) (by omega) (by omega)).mono ?_
        rintro e w8 ⟨rfl, hx8⟩
        have X8 : Ext w7 w8 := by repeat' (first | (with_reducible exact Ext.refl _) | (with_reducible assumption) | (with_reducible refine Ext.drewN ?_ _) | (with_reducible refine Ext.drew ?_) | (with_reducible refine Ext.alloc ?_ _) | (with_reducible refine Ext.setCell ?_ ?_ _) | (with_reducible exact Nat.le_refl _) | (with_reducible refine Ext.trans ?_ (by assumption)) | omega)
        have Z8 := X8.size
        have E8 : Ext w w8 := E7.trans X8
        have gw0_7 := gw0_7.ext X8
        have Bw0 := Bw0.ext X8
        have gg0_7 := gg0_7.ext X8
        have Bg0 := Bg0.ext X8
        have gh0_7 := gh0_7.ext X8
        have Bh0 := Bh0.ext X8
        clear hx8
        clear CBw0 LBw0 CBg0 LBg0 CBh0 LBh0
        have CBw0 := Bw0.cell; have LBw0 := Bw0.lt
        have CBg0 := Bg0.cell; have LBg0 := Bg0.lt
        have CBh0 := Bh0.cell; have LBh0 := Bh0.lt
        rw [← HN.out]
        go_wp2
        go_ret
        exact ⟨rfl, E8⟩
end Go.Proofs.Ytfeddckbbhgpfaa
