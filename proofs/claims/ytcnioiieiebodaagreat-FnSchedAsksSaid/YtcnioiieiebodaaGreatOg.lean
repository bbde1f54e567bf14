/- Contracts and plain laws: DG3. -/
import Derived.Test.YtcnioiieiebodaaGreatMa
import Derived.Deep.DeepCutAuto
import Derived.Test.YtcnioiieiebodaaGreatOf
import Derived.Test.YtcnioiieiebodaaGreatMp
set_option linter.unusedSimpArgs false
set_option linter.unusedVariables false
-- Draws of schedulers, right and bent.
set_option linter.unusedSimpArgs false
set_option linter.unusedVariables false
namespace Go.Proofs.YtcnioiieiebodaaGreat
open Go.RowKit Go.G8

set_option maxHeartbeats 400000000 in
set_option maxRecDepth 100000 in
theorem l21DrawAny_c {B : Nat} {w : World} {g : Nat} (h : Cur B w g) : Calls Tryz.prog 29 #[.pointer (some ⟨g, 0, none⟩)] w (Dr B w g fun v w' => ∃ s : DSched, IsSched w.heap.size w' v s) := by
 have hc0 := h; have E0 : Upd w w [g] := Upd.refl _ _
 have hg0 := h.lt
 go_enter Tryz.func29, Tryz.ntmps29
 go_wp2_with fail
 refine (l21Draw_c (show Cur B _ g from by exact curT)).mono ?_
 rintro e w1 ⟨_, rfl, X1, hc1, s, HS⟩
 have hz1 := X1.size; (try simp only [szA] at hz1)
 have E1 : Upd w w1 [g] := Upd.trans (by exact updT) X1
 have KR1 : Blk w1 w.heap.size 32 #[.int .i64 0, .int .i64 0, .int .i64 0, .int .i64 0, .int .i64 0, .int .i64 0, .int .i64 0, .slice none 0 0, .bool false, .int .i64 0, .int .i64 0, .int .i64 0, .int .i64 0, .int .i64 0, .int .i64 0] := Blk.upd1 (Blk.cast (by exact blkT) (by first | rfl | simp)) X1 (by omega)
 clear X1
 have CR1 := KR1.cell; have FR1 := KR1.frozen; have LR1 := KR1.lt
 obtain ⟨bz, hbz⟩ : ∃ b, b = s.Busy := ⟨_, rfl⟩
 obtain ⟨tq, rfl, HQ⟩ := HS
 rw [← hbz]; clear hbz
 obtain ⟨aq, nq, kq, rfl⟩ := HQ.shape
 have Oq1 : OwnI w.heap.size 100 2 w1 (.slice aq nq kq) (dues s.View.Jobs.Open) := OwnI.mono HQ (by first | omega | (simp only [szA]; omega))
 clear HQ
 go_wp2_with fail
 refine (l1Once_c (show Cur B _ g from by exact curT) 6).mono ?_
 rintro e w2 ⟨_, rfl, X2, hc2, b1, rfl⟩
 have hz2 := X2.size; (try simp only [szA] at hz2)
 have E2 : Upd w w2 [g] := Upd.trans (by exact updT) X2
 have KR2 : Blk w2 w.heap.size 32 #[.int .i64 0, .int .i64 0, .int .i64 0, .int .i64 0, .int .i64 0, .int .i64 0, .int .i64 0, .slice none 0 0, .bool false, .int .i64 0, .int .i64 0, .int .i64 0, .int .i64 0, .int .i64 0, .int .i64 0] := Blk.upd1 (Blk.cast (by exact blkT) (by first | rfl | simp)) X2 (by omega)
 have KD2 : Blk w2 w1.heap.size 32 #[.int .i64 s.Id, .int .i64 s.Seq, .int .i64 s.View.Jobs.Index, .int .i64 s.View.Jobs.Time, .int .i64 s.View.Jobs.Holder, .int .i64 s.View.Jobs.Epoch, .int .i64 s.View.Jobs.Until, .slice aq nq kq, .bool bz, .int .i64 s.Op.Kind, .int .i64 s.Op.A, .int .i64 s.Op.B, .int .i64 s.Op.C, .int .i64 s.Op.D, .int .i64 s.Index] := Blk.upd1 (Blk.cast (by exact blkT) (by first | rfl | simp)) X2 (by omega)
 have Oq2 : OwnI w.heap.size 100 2 w2 (.slice aq nq kq) (dues s.View.Jobs.Open) := OwnI.drawn (by exact ownR) X2 (by omega)
 clear X2
 clear CR1 FR1 LR1
 have CR2 := KR2.cell; have FR2 := KR2.frozen; have LR2 := KR2.lt
 have CD2 := KD2.cell; have FD2 := KD2.frozen; have LD2 := KD2.lt
 go_upto_if 7 with (fail)
 go_cut [] (fun wx => ∃ z0 : Int, ∃ z1 : Int, ∃ z2 : Int, ∃ z3 : Int, ∃ z4 : Int, ∃ z5 : Int, ∃ z6 : Int, ∃ az : Option Addr, ∃ nz : Nat, ∃ kz : Nat, ∃ zb : Bool, ∃ y0 : Int, ∃ y1 : Int, ∃ y2 : Int, ∃ y3 : Int, ∃ y4 : Int, ∃ zi : Int, ∃ lz : List DDue, Blk wx w1.heap.size 32 #[.int .i64 z0, .int .i64 z1, .int .i64 z2, .int .i64 z3, .int .i64 z4, .int .i64 z5, .int .i64 z6, .slice az nz kz, .bool zb, .int .i64 y0, .int .i64 y1, .int .i64 y2, .int .i64 y3, .int .i64 y4, .int .i64 zi] ∧ OwnI w.heap.size 100 2 wx (.slice az nz kz) (dues lz) ∧ Upd w wx [g] ∧ Cur B wx g ∧ Blk wx w.heap.size 32 #[.int .i64 0, .int .i64 0, .int .i64 0, .int .i64 0, .int .i64 0, .int .i64 0, .int .i64 0, .slice none 0 0, .bool false, .int .i64 0, .int .i64 0, .int .i64 0, .int .i64 0, .int .i64 0, .int .i64 0])
 case first =>
  cases b1
  rotate_left
  ·
   skip
   go_wp2_with fail
   refine (l1Below_c (show Cur B _ g from by exact curT) 6).mono ?_
   rintro e w3 ⟨_, rfl, X3, hc3, m, rfl, pm, qm, rm⟩
   have hz3 := X3.size; (try simp only [szA] at hz3)
   have E3 : Upd w w3 [g] := Upd.trans (by exact updT) X3
   have KR3 : Blk w3 w.heap.size 32 #[.int .i64 0, .int .i64 0, .int .i64 0, .int .i64 0, .int .i64 0, .int .i64 0, .int .i64 0, .slice none 0 0, .bool false, .int .i64 0, .int .i64 0, .int .i64 0, .int .i64 0, .int .i64 0, .int .i64 0] := Blk.upd1 (Blk.cast (by exact blkT) (by first | rfl | simp)) X3 (by omega)
   have KD3 : Blk w3 w1.heap.size 32 #[.int .i64 s.Id, .int .i64 s.Seq, .int .i64 s.View.Jobs.Index, .int .i64 s.View.Jobs.Time, .int .i64 s.View.Jobs.Holder, .int .i64 s.View.Jobs.Epoch, .int .i64 s.View.Jobs.Until, .slice aq nq kq, .bool bz, .int .i64 s.Op.Kind, .int .i64 s.Op.A, .int .i64 s.Op.B, .int .i64 s.Op.C, .int .i64 s.Op.D, .int .i64 s.Index] := Blk.upd1 (Blk.cast (by exact blkT) (by first | rfl | simp)) X3 (by omega)
   have Oq3 : OwnI w.heap.size 100 2 w3 (.slice aq nq kq) (dues s.View.Jobs.Open) := OwnI.drawn (by exact ownR) X3 (by omega)
   clear X3
   clear CR2 FR2 LR2 CD2 FD2 LD2
   have CR3 := KR3.cell; have FR3 := KR3.frozen; have LR3 := KR3.lt
   have CD3 := KD3.cell; have FD3 := KD3.frozen; have LD3 := KD3.lt
   have qm := qm (by decide); clear rm
   obtain rfl | rfl | rfl | rfl | rfl | rfl : m = 0 ∨ m = 1 ∨ m = 2 ∨ m = 3 ∨ m = 4 ∨ m = 5 := by omega
   ·
    skip
    go_wp2_with fail
    refine (l1Num_c (show Cur B _ g from by exact curT) 5 (by omega) (by omega)).mono ?_
    rintro e w4 ⟨_, rfl, X4, hc4, u, rfl⟩
    have hz4 := X4.size; (try simp only [szA] at hz4)
    have E4 : Upd w w4 [g] := Upd.trans (by exact updT) X4
    have KR4 : Blk w4 w.heap.size 32 #[.int .i64 0, .int .i64 0, .int .i64 0, .int .i64 0, .int .i64 0, .int .i64 0, .int .i64 0, .slice none 0 0, .bool false, .int .i64 0, .int .i64 0, .int .i64 0, .int .i64 0, .int .i64 0, .int .i64 0] := Blk.upd1 (Blk.cast (by exact blkT) (by first | rfl | simp)) X4 (by omega)
    have KD4 : Blk w4 w1.heap.size 32 #[.int .i64 s.Id, .int .i64 s.Seq, .int .i64 s.View.Jobs.Index, .int .i64 s.View.Jobs.Time, .int .i64 s.View.Jobs.Holder, .int .i64 s.View.Jobs.Epoch, .int .i64 s.View.Jobs.Until, .slice aq nq kq, .bool bz, .int .i64 s.Op.Kind, .int .i64 s.Op.A, .int .i64 s.Op.B, .int .i64 s.Op.C, .int .i64 s.Op.D, .int .i64 s.Index] := Blk.upd1 (Blk.cast (by exact blkT) (by first | rfl | simp)) X4 (by omega)
    have Oq4 : OwnI w.heap.size 100 2 w4 (.slice aq nq kq) (dues s.View.Jobs.Open) := OwnI.drawn (by exact ownR) X4 (by omega)
    clear X4
    clear CR3 FR3 LR3 CD3 FD3 LD3
    have CR4 := KR4.cell; have FR4 := KR4.frozen; have LR4 := KR4.lt
    have CD4 := KD4.cell; have FD4 := KD4.frozen; have LD4 := KD4.lt
    go_wp2_with fail
    go_meet
    case rel => exact ⟨u, s.Seq, s.View.Jobs.Index, s.View.Jobs.Time, s.View.Jobs.Holder, s.View.Jobs.Epoch, s.View.Jobs.Until, aq, nq, kq, bz, s.Op.Kind, s.Op.A, s.Op.B, s.Op.C, s.Op.D, s.Index, s.View.Jobs.Open, (Blk.cast (by exact blkT) setsT), (by exact ownR), (by exact updT), (by exact curT), (Blk.cast (by exact blkT) setsT)⟩
   ·
    skip
    go_wp2_with fail
    refine (l1Below_c (show Cur B _ g from by exact curT) 4).mono ?_
    rintro e w4 ⟨_, rfl, X4, hc4, ui, rfl, pu, qu, ru⟩
    have hz4 := X4.size; (try simp only [szA] at hz4)
    have E4 : Upd w w4 [g] := Upd.trans (by exact updT) X4
    have KR4 : Blk w4 w.heap.size 32 #[.int .i64 0, .int .i64 0, .int .i64 0, .int .i64 0, .int .i64 0, .int .i64 0, .int .i64 0, .slice none 0 0, .bool false, .int .i64 0, .int .i64 0, .int .i64 0, .int .i64 0, .int .i64 0, .int .i64 0] := Blk.upd1 (Blk.cast (by exact blkT) (by first | rfl | simp)) X4 (by omega)
    have KD4 : Blk w4 w1.heap.size 32 #[.int .i64 s.Id, .int .i64 s.Seq, .int .i64 s.View.Jobs.Index, .int .i64 s.View.Jobs.Time, .int .i64 s.View.Jobs.Holder, .int .i64 s.View.Jobs.Epoch, .int .i64 s.View.Jobs.Until, .slice aq nq kq, .bool bz, .int .i64 s.Op.Kind, .int .i64 s.Op.A, .int .i64 s.Op.B, .int .i64 s.Op.C, .int .i64 s.Op.D, .int .i64 s.Index] := Blk.upd1 (Blk.cast (by exact blkT) (by first | rfl | simp)) X4 (by omega)
    have KPk4 : Blk w4 w3.heap.size 2 #[.int .i64 (-1), .int .i64 0, .int .i64 2000, .int .i64 2001] := Blk.upd1 (Blk.cast (by exact blkT) (by first | rfl | simp)) X4 (by omega)
    have Oq4 : OwnI w.heap.size 100 2 w4 (.slice aq nq kq) (dues s.View.Jobs.Open) := OwnI.drawn (by exact ownR) X4 (by omega)
    clear X4
    clear CR3 FR3 LR3 CD3 FD3 LD3
    have CR4 := KR4.cell; have FR4 := KR4.frozen; have LR4 := KR4.lt
    have CD4 := KD4.cell; have FD4 := KD4.frozen; have LD4 := KD4.lt
    have CPk4 := KPk4.cell; have FPk4 := KPk4.frozen; have LPk4 := KPk4.lt
    have qu := qu (by decide); clear ru
    obtain ⟨u, hu⟩ : ∃ u : Int, w4.cell? ⟨w3.heap.size, ui.toNat, none⟩ = some (.int .i64 u) := by
     rw [KPk4.cell]
     have : ui.toNat < 4 := by omega
     exact pick_int [-1, 0, 2000, 2001] this
    clear CPk4
    go_wp2_with fail
    go_meet
    case rel => exact ⟨s.Id, u, s.View.Jobs.Index, s.View.Jobs.Time, s.View.Jobs.Holder, s.View.Jobs.Epoch, s.View.Jobs.Until, aq, nq, kq, bz, s.Op.Kind, s.Op.A, s.Op.B, s.Op.C, s.Op.D, s.Index, s.View.Jobs.Open, (Blk.cast (by exact blkT) setsT), (by exact ownR), (by exact updT), (by exact curT), (Blk.cast (by exact blkT) setsT)⟩
   ·
    skip
    go_wp2_with fail
    refine (l20DrawAny_c (show Cur B _ g from by exact curT)).mono ?_
    rintro e w4 ⟨_, rfl, X4, hc4, v, hj, hl⟩
    have hz4 := X4.size; (try simp only [szA] at hz4)
    have E4 : Upd w w4 [g] := Upd.trans (by exact updT) X4
    have KR4 : Blk w4 w.heap.size 32 #[.int .i64 0, .int .i64 0, .int .i64 0, .int .i64 0, .int .i64 0, .int .i64 0, .int .i64 0, .slice none 0 0, .bool false, .int .i64 0, .int .i64 0, .int .i64 0, .int .i64 0, .int .i64 0, .int .i64 0] := Blk.upd1 (Blk.cast (by exact blkT) (by first | rfl | simp)) X4 (by omega)
    have KD4 : Blk w4 w1.heap.size 32 #[.int .i64 s.Id, .int .i64 s.Seq, .int .i64 s.View.Jobs.Index, .int .i64 s.View.Jobs.Time, .int .i64 s.View.Jobs.Holder, .int .i64 s.View.Jobs.Epoch, .int .i64 s.View.Jobs.Until, .slice aq nq kq, .bool bz, .int .i64 s.Op.Kind, .int .i64 s.Op.A, .int .i64 s.Op.B, .int .i64 s.Op.C, .int .i64 s.Op.D, .int .i64 s.Index] := Blk.upd1 (Blk.cast (by exact blkT) (by first | rfl | simp)) X4 (by omega)
    have Oq4 : OwnI w.heap.size 100 2 w4 (.slice aq nq kq) (dues s.View.Jobs.Open) := OwnI.drawn (by exact ownR) X4 (by omega)
    clear X4
    clear CR3 FR3 LR3 CD3 FD3 LD3
    have CR4 := KR4.cell; have FR4 := KR4.frozen; have LR4 := KR4.lt
    have CD4 := KD4.cell; have FD4 := KD4.frozen; have LD4 := KD4.lt
    obtain ⟨tv, rfl, HQ⟩ := hj
    clear Oq4
    obtain ⟨av, nv, kv, rfl⟩ := HQ.shape
    have Oq4 : OwnI w.heap.size 100 2 w4 (.slice av nv kv) (dues v.Jobs.Open) := OwnI.mono HQ (by first | omega | (simp only [szA]; omega))
    clear HQ
    go_wp2_with fail
    go_meet
    case rel => exact ⟨s.Id, s.Seq, v.Jobs.Index, v.Jobs.Time, v.Jobs.Holder, v.Jobs.Epoch, v.Jobs.Until, av, nv, kv, bz, s.Op.Kind, s.Op.A, s.Op.B, s.Op.C, s.Op.D, s.Index, v.Jobs.Open, (Blk.cast (by exact blkT) setsT), (by exact ownR), (by exact updT), (by exact curT), (Blk.cast (by exact blkT) setsT)⟩
   ·
    skip
    go_wp2_with fail
    go_meet
    case rel => exact ⟨s.Id, s.Seq, s.View.Jobs.Index, s.View.Jobs.Time, s.View.Jobs.Holder, s.View.Jobs.Epoch, s.View.Jobs.Until, aq, nq, kq, (!bz), s.Op.Kind, s.Op.A, s.Op.B, s.Op.C, s.Op.D, s.Index, s.View.Jobs.Open, (Blk.cast (by exact blkT) setsT), (by exact ownR), (by exact updT), (by exact curT), (Blk.cast (by exact blkT) setsT)⟩
   ·
    skip
    have hgM : g < w.heap.size := by omega
    go_wp2_with fail
    refine (drawOp_c (show Cur B _ g from by exact curT) hgM (IsState.nil _ _) _).mono ?_
    rintro e w4 ⟨_, rfl, X4, hc4, oa, ob, oc, od, oe, rfl⟩
    have hz4 := X4.size; (try simp only [szA] at hz4)
    have E4 : Upd w w4 [g] := Upd.trans (by exact updT) X4
    have KR4 : Blk w4 w.heap.size 32 #[.int .i64 0, .int .i64 0, .int .i64 0, .int .i64 0, .int .i64 0, .int .i64 0, .int .i64 0, .slice none 0 0, .bool false, .int .i64 0, .int .i64 0, .int .i64 0, .int .i64 0, .int .i64 0, .int .i64 0] := Blk.upd1 (Blk.cast (by exact blkT) (by first | rfl | simp)) X4 (by omega)
    have KD4 : Blk w4 w1.heap.size 32 #[.int .i64 s.Id, .int .i64 s.Seq, .int .i64 s.View.Jobs.Index, .int .i64 s.View.Jobs.Time, .int .i64 s.View.Jobs.Holder, .int .i64 s.View.Jobs.Epoch, .int .i64 s.View.Jobs.Until, .slice aq nq kq, .bool bz, .int .i64 s.Op.Kind, .int .i64 s.Op.A, .int .i64 s.Op.B, .int .i64 s.Op.C, .int .i64 s.Op.D, .int .i64 s.Index] := Blk.upd1 (Blk.cast (by exact blkT) (by first | rfl | simp)) X4 (by omega)
    have Oq4 : OwnI w.heap.size 100 2 w4 (.slice aq nq kq) (dues s.View.Jobs.Open) := OwnI.drawn (by exact ownR) X4 (by omega)
    clear X4
    clear CR3 FR3 LR3 CD3 FD3 LD3
    have CR4 := KR4.cell; have FR4 := KR4.frozen; have LR4 := KR4.lt
    have CD4 := KD4.cell; have FD4 := KD4.frozen; have LD4 := KD4.lt
    go_wp2_with fail
    go_meet
    case rel => exact ⟨s.Id, s.Seq, s.View.Jobs.Index, s.View.Jobs.Time, s.View.Jobs.Holder, s.View.Jobs.Epoch, s.View.Jobs.Until, aq, nq, kq, bz, oa, ob, oc, od, oe, s.Index, s.View.Jobs.Open, (Blk.cast (by exact blkT) setsT), (by exact ownR), (by exact updT), (by exact curT), (Blk.cast (by exact blkT) setsT)⟩
   ·
    skip
    go_wp2_with fail
    refine (l1Below_c (show Cur B _ g from by exact curT) 4).mono ?_
    rintro e w4 ⟨_, rfl, X4, hc4, ui, rfl, pu, qu, ru⟩
    have hz4 := X4.size; (try simp only [szA] at hz4)
    have E4 : Upd w w4 [g] := Upd.trans (by exact updT) X4
    have KR4 : Blk w4 w.heap.size 32 #[.int .i64 0, .int .i64 0, .int .i64 0, .int .i64 0, .int .i64 0, .int .i64 0, .int .i64 0, .slice none 0 0, .bool false, .int .i64 0, .int .i64 0, .int .i64 0, .int .i64 0, .int .i64 0, .int .i64 0] := Blk.upd1 (Blk.cast (by exact blkT) (by first | rfl | simp)) X4 (by omega)
    have KD4 : Blk w4 w1.heap.size 32 #[.int .i64 s.Id, .int .i64 s.Seq, .int .i64 s.View.Jobs.Index, .int .i64 s.View.Jobs.Time, .int .i64 s.View.Jobs.Holder, .int .i64 s.View.Jobs.Epoch, .int .i64 s.View.Jobs.Until, .slice aq nq kq, .bool bz, .int .i64 s.Op.Kind, .int .i64 s.Op.A, .int .i64 s.Op.B, .int .i64 s.Op.C, .int .i64 s.Op.D, .int .i64 s.Index] := Blk.upd1 (Blk.cast (by exact blkT) (by first | rfl | simp)) X4 (by omega)
    have KPk4 : Blk w4 w3.heap.size 2 #[.int .i64 (-1), .int .i64 0, .int .i64 2000, .int .i64 2001] := Blk.upd1 (Blk.cast (by exact blkT) (by first | rfl | simp)) X4 (by omega)
    have Oq4 : OwnI w.heap.size 100 2 w4 (.slice aq nq kq) (dues s.View.Jobs.Open) := OwnI.drawn (by exact ownR) X4 (by omega)
    clear X4
    clear CR3 FR3 LR3 CD3 FD3 LD3
    have CR4 := KR4.cell; have FR4 := KR4.frozen; have LR4 := KR4.lt
    have CD4 := KD4.cell; have FD4 := KD4.frozen; have LD4 := KD4.lt
    have CPk4 := KPk4.cell; have FPk4 := KPk4.frozen; have LPk4 := KPk4.lt
    have qu := qu (by decide); clear ru
    obtain ⟨u, hu⟩ : ∃ u : Int, w4.cell? ⟨w3.heap.size, ui.toNat, none⟩ = some (.int .i64 u) := by
     rw [KPk4.cell]
     have : ui.toNat < 4 := by omega
     exact pick_int [-1, 0, 2000, 2001] this
    clear CPk4
    go_wp2_with fail
    go_meet
    case rel => exact ⟨s.Id, s.Seq, s.View.Jobs.Index, s.View.Jobs.Time, s.View.Jobs.Holder, s.View.Jobs.Epoch, s.View.Jobs.Until, aq, nq, kq, bz, s.Op.Kind, s.Op.A, s.Op.B, s.Op.C, s.Op.D, u, s.View.Jobs.Open, (Blk.cast (by exact blkT) setsT), (by exact ownR), (by exact updT), (by exact curT), (Blk.cast (by exact blkT) setsT)⟩
  ·
   skip
   go_wp2_with fail
   go_meet
   case rel => exact ⟨s.Id, s.Seq, s.View.Jobs.Index, s.View.Jobs.Time, s.View.Jobs.Holder, s.View.Jobs.Epoch, s.View.Jobs.Until, aq, nq, kq, bz, s.Op.Kind, s.Op.A, s.Op.B, s.Op.C, s.Op.D, s.Index, s.View.Jobs.Open, (Blk.cast (by exact blkT) setsT), (by exact ownR), (by exact updT), (by exact curT), (Blk.cast (by exact blkT) setsT)⟩
 case rest =>
  revert wc; intro w3 hcut
  obtain ⟨z0, z1, z2, z3, z4, z5, z6, az, nz, kz, zb, y0, y1, y2, y3, y4, zi, lz, KD3, Oq3, E3, hc3, KR3⟩ := hcut
  have hz3 := E3.size
  clear CR2 FR2 LR2 CD2 FD2 LD2
  have CR3 := KR3.cell; have FR3 := KR3.frozen; have LR3 := KR3.lt
  have CD3 := KD3.cell; have FD3 := KD3.frozen; have LD3 := KD3.lt
  go_wp2_with (refine wpList_store_box rfl 32 (.tmp 2) (.tmp 50) rfl rfl rfl _ (show Blk _ _ 32 #[.int .i64 0, .int .i64 0, .int .i64 0, .int .i64 0, .int .i64 0, .int .i64 0, .int .i64 0, .slice none 0 0, .bool false, .int .i64 0, .int .i64 0, .int .i64 0, .int .i64 0, .int .i64 0, .int .i64 0] from by exact blkT) (by kernel_rfl) rfl (by kernel_rfl) ?_; intro KF)
  generalize hwz : World.setRow _ _ _ = wz at KF ⊢
  have CKF := KF.cell; have FKF := KF.frozen; have LKF := KF.lt
  refine bodyPost_ret (by simp [results, Tryz.results29, go_sem, CKF, FKF, LKF]; try rfl) rfl ?_
  exact ⟨_, rfl, by rw [← hwz]; exact updT, by rw [← hwz]; exact curT, ⟨z0, z1, ⟨⟨z2, z3, z4, z5, z6, lz⟩⟩, zb, ⟨y0, y1, y2, y3, y4⟩, zi⟩, _, rfl, by rw [← hwz]; exact OwnI.mono (show OwnI w.heap.size 100 2 _ (.slice az nz kz) (dues lz) from by exact ownR) (by omega)⟩

end Go.Proofs.YtcnioiieiebodaaGreat
