/- Contracts and plain laws: DG2. -/
import Derived.Test.YtcnioiieiebodaaGreatMa
import Derived.Deep.DeepCutAuto
import Derived.Test.YtcnioiieiebodaaGreatNd
import Derived.Test.YtcnioiieiebodaaGreatNc
set_option linter.unusedSimpArgs false
set_option linter.unusedVariables false
-- Draws of schedulers.
set_option linter.unusedSimpArgs false
set_option linter.unusedVariables false
namespace Go.Proofs.YtcnioiieiebodaaGreat
open Go.RowKit Go.G8

set_option maxHeartbeats 400000000 in
set_option maxRecDepth 100000 in
theorem l21Draw_c {B : Nat} {w : World} {g : Nat} (h : Cur B w g) : Calls Tryz.prog 75 #[.pointer (some ⟨g, 0, none⟩)] w (Dr B w g fun v w' => ∃ s : DSched, IsSched w.heap.size w' v s) := by
 have hc0 := h; have E0 : Upd w w [g] := Upd.refl _ _
 have hg0 := h.lt
 go_enter Tryz.func75, Tryz.ntmps75
 go_wp2_with fail
 refine (l1Below_c (show Cur B _ g from by exact curT) 2).mono ?_
 rintro e w1 ⟨_, rfl, X1, hc1, x, rfl, px, qx, rx⟩
 have hz1 := X1.size; (try simp only [szA] at hz1)
 have E1 : Upd w w1 [g] := Upd.trans (by exact updT) X1
 have KR1 : Blk w1 w.heap.size 32 #[.int .i64 0, .int .i64 0, .int .i64 0, .int .i64 0, .int .i64 0, .int .i64 0, .int .i64 0, .slice none 0 0, .bool false, .int .i64 0, .int .i64 0, .int .i64 0, .int .i64 0, .int .i64 0, .int .i64 0] := Blk.upd1 (Blk.cast (by exact blkT) (by first | rfl | simp)) X1 (by omega)
 clear X1
 have CR1 := KR1.cell; have FR1 := KR1.frozen; have LR1 := KR1.lt
 have qx := qx (by decide); clear rx
 go_wp2_with fail
 refine (sNewSched_c _ _).mono ?_
 rintro e w2 ⟨_, rfl, hx2, HS⟩
 have hz2 := hx2.size; (try simp only [szA] at hz2)
 have E2 : Upd w w2 [g] := Upd.ext (by exact updT) hx2
 have hc2 : Cur B w2 g := Cur.ext (by exact curT) hx2
 have KR2 : Blk w2 w.heap.size 32 #[.int .i64 0, .int .i64 0, .int .i64 0, .int .i64 0, .int .i64 0, .int .i64 0, .int .i64 0, .slice none 0 0, .bool false, .int .i64 0, .int .i64 0, .int .i64 0, .int .i64 0, .int .i64 0, .int .i64 0] := Blk.ext (Blk.cast (by exact blkT) (by first | rfl | simp)) hx2
 clear hx2
 clear CR1 FR1 LR1
 have CR2 := KR2.cell; have FR2 := KR2.frozen; have LR2 := KR2.lt
 generalize newSched _ = s0 at HS
 obtain ⟨tq, rfl, HQ⟩ := HS
 obtain ⟨az, nz, kz, rfl⟩ := HQ.shape
 have Oq2 : OwnI w.heap.size 100 2 w2 (.slice az nz kz) (dues s0.View.Jobs.Open) := OwnI.mono HQ (by first | omega | (simp only [szA]; omega))
 clear HQ
 clear Oq2
 go_wp2_with fail
 refine (l20DrawJobs_c (show Cur B _ g from by exact curT)).mono ?_
 rintro e w3 ⟨_, rfl, X3, hc3, j, hj, hl⟩
 have hz3 := X3.size; (try simp only [szA] at hz3)
 have E3 : Upd w w3 [g] := Upd.trans (by exact updT) X3
 have KR3 : Blk w3 w.heap.size 32 #[.int .i64 0, .int .i64 0, .int .i64 0, .int .i64 0, .int .i64 0, .int .i64 0, .int .i64 0, .slice none 0 0, .bool false, .int .i64 0, .int .i64 0, .int .i64 0, .int .i64 0, .int .i64 0, .int .i64 0] := Blk.upd1 (Blk.cast (by exact blkT) (by first | rfl | simp)) X3 (by omega)
 have KS3 : Blk w3 w2.heap.size 32 #[.int .i64 s0.Id, .int .i64 s0.Seq, .int .i64 s0.View.Jobs.Index, .int .i64 s0.View.Jobs.Time, .int .i64 s0.View.Jobs.Holder, .int .i64 s0.View.Jobs.Epoch, .int .i64 s0.View.Jobs.Until, .slice az nz kz, .bool s0.Busy, .int .i64 s0.Op.Kind, .int .i64 s0.Op.A, .int .i64 s0.Op.B, .int .i64 s0.Op.C, .int .i64 s0.Op.D, .int .i64 s0.Index] := Blk.upd1 (Blk.cast (by exact blkT) (by first | rfl | simp)) X3 (by omega)
 clear X3
 clear CR2 FR2 LR2
 have CR3 := KR3.cell; have FR3 := KR3.frozen; have LR3 := KR3.lt
 have CS3 := KS3.cell; have FS3 := KS3.frozen; have LS3 := KS3.lt
 obtain ⟨tq, rfl, HQ⟩ := hj
 obtain ⟨aq, nq, kq, rfl⟩ := HQ.shape
 have Oq3 : OwnI w.heap.size 100 2 w3 (.slice aq nq kq) (dues j.Open) := OwnI.mono HQ (by first | omega | (simp only [szA]; omega))
 clear HQ
 go_wp2_with fail
 refine (l1Below_c (show Cur B _ g from by exact curT) 9).mono ?_
 rintro e w4 ⟨_, rfl, X4, hc4, y, rfl, py, qy, ry⟩
 have hz4 := X4.size; (try simp only [szA] at hz4)
 have E4 : Upd w w4 [g] := Upd.trans (by exact updT) X4
 have KR4 : Blk w4 w.heap.size 32 #[.int .i64 0, .int .i64 0, .int .i64 0, .int .i64 0, .int .i64 0, .int .i64 0, .int .i64 0, .slice none 0 0, .bool false, .int .i64 0, .int .i64 0, .int .i64 0, .int .i64 0, .int .i64 0, .int .i64 0] := Blk.upd1 (Blk.cast (by exact blkT) (by first | rfl | simp)) X4 (by omega)
 have KS4 : Blk w4 w2.heap.size 32 #[.int .i64 s0.Id, .int .i64 s0.Seq, .int .i64 j.Index, .int .i64 j.Time, .int .i64 j.Holder, .int .i64 j.Epoch, .int .i64 j.Until, .slice aq nq kq, .bool s0.Busy, .int .i64 s0.Op.Kind, .int .i64 s0.Op.A, .int .i64 s0.Op.B, .int .i64 s0.Op.C, .int .i64 s0.Op.D, .int .i64 s0.Index] := Blk.upd1 (Blk.cast (by exact blkT) (by first | rfl | simp)) X4 (by omega)
 have Oq4 : OwnI w.heap.size 100 2 w4 (.slice aq nq kq) (dues j.Open) := OwnI.drawn (by exact ownR) X4 (by omega)
 clear X4
 clear CR3 FR3 LR3 CS3 FS3 LS3
 have CR4 := KR4.cell; have FR4 := KR4.frozen; have LR4 := KR4.lt
 have CS4 := KS4.cell; have FS4 := KS4.frozen; have LS4 := KS4.lt
 have qy := qy (by decide); clear ry
 go_upto_region 4 with (fail)
 go_cut [23] (fun cx0 wx => ∃ c1v : Bool, cx0 = .bool c1v ∧ Upd w wx [g] ∧ Cur B wx g ∧ Blk wx w.heap.size 32 #[.int .i64 0, .int .i64 0, .int .i64 0, .int .i64 0, .int .i64 0, .int .i64 0, .int .i64 0, .slice none 0 0, .bool false, .int .i64 0, .int .i64 0, .int .i64 0, .int .i64 0, .int .i64 0, .int .i64 0] ∧ Blk wx w2.heap.size 32 #[.int .i64 s0.Id, .int .i64 y, .int .i64 j.Index, .int .i64 j.Time, .int .i64 j.Holder, .int .i64 j.Epoch, .int .i64 j.Until, .slice aq nq kq, .bool s0.Busy, .int .i64 s0.Op.Kind, .int .i64 s0.Op.A, .int .i64 s0.Op.B, .int .i64 s0.Op.C, .int .i64 s0.Op.D, .int .i64 s0.Index] ∧ OwnI w.heap.size 100 2 wx (.slice aq nq kq) (dues j.Open))
 case first =>
  go_wp2_with fail
  refine (l1Once_c (show Cur B _ g from by exact curT) 2).mono ?_
  rintro e w5 ⟨_, rfl, X5, hc5, c1, rfl⟩
  have hz5 := X5.size; (try simp only [szA] at hz5)
  have E5 : Upd w w5 [g] := Upd.trans (by exact updT) X5
  have KR5 : Blk w5 w.heap.size 32 #[.int .i64 0, .int .i64 0, .int .i64 0, .int .i64 0, .int .i64 0, .int .i64 0, .int .i64 0, .slice none 0 0, .bool false, .int .i64 0, .int .i64 0, .int .i64 0, .int .i64 0, .int .i64 0, .int .i64 0] := Blk.upd1 (Blk.cast (by exact blkT) (by first | rfl | simp)) X5 (by omega)
  have KS5 : Blk w5 w2.heap.size 32 #[.int .i64 s0.Id, .int .i64 y, .int .i64 j.Index, .int .i64 j.Time, .int .i64 j.Holder, .int .i64 j.Epoch, .int .i64 j.Until, .slice aq nq kq, .bool s0.Busy, .int .i64 s0.Op.Kind, .int .i64 s0.Op.A, .int .i64 s0.Op.B, .int .i64 s0.Op.C, .int .i64 s0.Op.D, .int .i64 s0.Index] := Blk.upd1 (Blk.cast (by exact blkT) (by first | rfl | simp)) X5 (by omega)
  have Oq5 : OwnI w.heap.size 100 2 w5 (.slice aq nq kq) (dues j.Open) := OwnI.drawn (by exact ownR) X5 (by omega)
  clear X5
  clear CR4 FR4 LR4 CS4 FS4 LS4
  have CR5 := KR5.cell; have FR5 := KR5.frozen; have LR5 := KR5.lt
  have CS5 := KS5.cell; have FS5 := KS5.frozen; have LS5 := KS5.lt
  cases c1
  ·
   skip
   go_wp2_with fail
   go_meet
   case rel => exact ⟨_, (by first | rfl | trivial), (by exact updT), (by exact curT), (Blk.cast (by exact blkT) setsT), (Blk.cast (by exact blkT) setsT), (by exact ownR)⟩
  ·
   skip
   go_wp2_with fail
   go_meet
   case rel => exact ⟨_, (by first | rfl | trivial), (by exact updT), (by exact curT), (Blk.cast (by exact blkT) setsT), (Blk.cast (by exact blkT) setsT), (by exact ownR)⟩
 case rest =>
  revert wc; intro w5 hcut
  obtain ⟨c1v, rfl, E5, hc5, KR5, KS5, Oq5⟩ := hcut
  have hz5 := E5.size
  clear CR4 FR4 LR4 CS4 FS4 LS4
  have CR5 := KR5.cell; have FR5 := KR5.frozen; have LR5 := KR5.lt
  have CS5 := KS5.cell; have FS5 := KS5.frozen; have LS5 := KS5.lt
  go_upto_if 23 with (fail)
  go_cut [] (fun wx => ∃ id1 : Int, Blk wx w2.heap.size 32 #[.int .i64 id1, .int .i64 y, .int .i64 j.Index, .int .i64 j.Time, .int .i64 j.Holder, .int .i64 j.Epoch, .int .i64 j.Until, .slice aq nq kq, .bool s0.Busy, .int .i64 s0.Op.Kind, .int .i64 s0.Op.A, .int .i64 s0.Op.B, .int .i64 s0.Op.C, .int .i64 s0.Op.D, .int .i64 s0.Index] ∧ Upd w wx [g] ∧ Cur B wx g ∧ Blk wx w.heap.size 32 #[.int .i64 0, .int .i64 0, .int .i64 0, .int .i64 0, .int .i64 0, .int .i64 0, .int .i64 0, .slice none 0 0, .bool false, .int .i64 0, .int .i64 0, .int .i64 0, .int .i64 0, .int .i64 0, .int .i64 0] ∧ OwnI w.heap.size 100 2 wx (.slice aq nq kq) (dues j.Open))
  case first =>
   cases c1v
   ·
    skip
    go_wp2_with fail
    go_meet
    case rel => exact ⟨s0.Id, (Blk.cast (by exact blkT) setsT), (by exact updT), (by exact curT), (Blk.cast (by exact blkT) setsT), (by exact ownR)⟩
   ·
    skip
    go_wp2_with fail
    go_meet
    case rel => exact ⟨j.Holder, (Blk.cast (by exact blkT) setsT), (by exact updT), (by exact curT), (Blk.cast (by exact blkT) setsT), (by exact ownR)⟩
  case rest =>
   revert wc; intro w6 hcut
   obtain ⟨id1, KS6, E6, hc6, KR6, Oq6⟩ := hcut
   have hz6 := E6.size
   clear CR5 FR5 LR5 CS5 FS5 LS5
   have CR6 := KR6.cell; have FR6 := KR6.frozen; have LR6 := KR6.lt
   have CS6 := KS6.cell; have FS6 := KS6.frozen; have LS6 := KS6.lt
   go_upto_region 6 with (fail)
   go_cut [30] (fun cx0 wx => ∃ c2v : Bool, cx0 = .bool c2v ∧ Upd w wx [g] ∧ Cur B wx g ∧ Blk wx w.heap.size 32 #[.int .i64 0, .int .i64 0, .int .i64 0, .int .i64 0, .int .i64 0, .int .i64 0, .int .i64 0, .slice none 0 0, .bool false, .int .i64 0, .int .i64 0, .int .i64 0, .int .i64 0, .int .i64 0, .int .i64 0] ∧ Blk wx w2.heap.size 32 #[.int .i64 id1, .int .i64 y, .int .i64 j.Index, .int .i64 j.Time, .int .i64 j.Holder, .int .i64 j.Epoch, .int .i64 j.Until, .slice aq nq kq, .bool s0.Busy, .int .i64 s0.Op.Kind, .int .i64 s0.Op.A, .int .i64 s0.Op.B, .int .i64 s0.Op.C, .int .i64 s0.Op.D, .int .i64 s0.Index] ∧ OwnI w.heap.size 100 2 wx (.slice aq nq kq) (dues j.Open))
   case first =>
    go_wp2_with fail
    refine (l1Once_c (show Cur B _ g from by exact curT) 2).mono ?_
    rintro e w7 ⟨_, rfl, X7, hc7, c2, rfl⟩
    have hz7 := X7.size; (try simp only [szA] at hz7)
    have E7 : Upd w w7 [g] := Upd.trans (by exact updT) X7
    have KR7 : Blk w7 w.heap.size 32 #[.int .i64 0, .int .i64 0, .int .i64 0, .int .i64 0, .int .i64 0, .int .i64 0, .int .i64 0, .slice none 0 0, .bool false, .int .i64 0, .int .i64 0, .int .i64 0, .int .i64 0, .int .i64 0, .int .i64 0] := Blk.upd1 (Blk.cast (by exact blkT) (by first | rfl | simp)) X7 (by omega)
    have KS7 : Blk w7 w2.heap.size 32 #[.int .i64 id1, .int .i64 y, .int .i64 j.Index, .int .i64 j.Time, .int .i64 j.Holder, .int .i64 j.Epoch, .int .i64 j.Until, .slice aq nq kq, .bool s0.Busy, .int .i64 s0.Op.Kind, .int .i64 s0.Op.A, .int .i64 s0.Op.B, .int .i64 s0.Op.C, .int .i64 s0.Op.D, .int .i64 s0.Index] := Blk.upd1 (Blk.cast (by exact blkT) (by first | rfl | simp)) X7 (by omega)
    have Oq7 : OwnI w.heap.size 100 2 w7 (.slice aq nq kq) (dues j.Open) := OwnI.drawn (by exact ownR) X7 (by omega)
    clear X7
    clear CR6 FR6 LR6 CS6 FS6 LS6
    have CR7 := KR7.cell; have FR7 := KR7.frozen; have LR7 := KR7.lt
    have CS7 := KS7.cell; have FS7 := KS7.frozen; have LS7 := KS7.lt
    go_wp2_with fail
    go_meet
    case rel => exact ⟨c2, (by first | rfl | trivial), (by exact updT), (by exact curT), (Blk.cast (by exact blkT) setsT), (Blk.cast (by exact blkT) setsT), (by exact ownR)⟩
   case rest =>
    revert wc; intro w7 hcut
    obtain ⟨c2v, rfl, E7, hc7, KR7, KS7, Oq7⟩ := hcut
    have hz7 := E7.size
    clear CR6 FR6 LR6 CS6 FS6 LS6
    have CR7 := KR7.cell; have FR7 := KR7.frozen; have LR7 := KR7.lt
    have CS7 := KS7.cell; have FS7 := KS7.frozen; have LS7 := KS7.lt
    go_upto_if 30 with (fail)
    go_cut [] (fun wx => ∃ ix1 : Int, Blk wx w2.heap.size 32 #[.int .i64 id1, .int .i64 y, .int .i64 j.Index, .int .i64 j.Time, .int .i64 j.Holder, .int .i64 j.Epoch, .int .i64 j.Until, .slice aq nq kq, .bool s0.Busy, .int .i64 s0.Op.Kind, .int .i64 s0.Op.A, .int .i64 s0.Op.B, .int .i64 s0.Op.C, .int .i64 s0.Op.D, .int .i64 ix1] ∧ Upd w wx [g] ∧ Cur B wx g ∧ Blk wx w.heap.size 32 #[.int .i64 0, .int .i64 0, .int .i64 0, .int .i64 0, .int .i64 0, .int .i64 0, .int .i64 0, .slice none 0 0, .bool false, .int .i64 0, .int .i64 0, .int .i64 0, .int .i64 0, .int .i64 0, .int .i64 0] ∧ OwnI w.heap.size 100 2 wx (.slice aq nq kq) (dues j.Open))
    case first =>
     cases c2v
     ·
      skip
      go_wp2_with fail
      go_meet
      case rel => exact ⟨s0.Index, (Blk.cast (by exact blkT) setsT), (by exact updT), (by exact curT), (Blk.cast (by exact blkT) setsT), (by exact ownR)⟩
     ·
      skip
      go_wp2_with fail
      refine (l1Below_c (show Cur B _ g from by exact curT) _).mono ?_
      rintro e w8 ⟨_, rfl, X8, hc8, x2, rfl, px2, qx2, rx2⟩
      have hz8 := X8.size; (try simp only [szA] at hz8)
      have E8 : Upd w w8 [g] := Upd.trans (by exact updT) X8
      have KR8 : Blk w8 w.heap.size 32 #[.int .i64 0, .int .i64 0, .int .i64 0, .int .i64 0, .int .i64 0, .int .i64 0, .int .i64 0, .slice none 0 0, .bool false, .int .i64 0, .int .i64 0, .int .i64 0, .int .i64 0, .int .i64 0, .int .i64 0] := Blk.upd1 (Blk.cast (by exact blkT) (by first | rfl | simp)) X8 (by omega)
      have KS8 : Blk w8 w2.heap.size 32 #[.int .i64 id1, .int .i64 y, .int .i64 j.Index, .int .i64 j.Time, .int .i64 j.Holder, .int .i64 j.Epoch, .int .i64 j.Until, .slice aq nq kq, .bool s0.Busy, .int .i64 s0.Op.Kind, .int .i64 s0.Op.A, .int .i64 s0.Op.B, .int .i64 s0.Op.C, .int .i64 s0.Op.D, .int .i64 s0.Index] := Blk.upd1 (Blk.cast (by exact blkT) (by first | rfl | simp)) X8 (by omega)
      have Oq8 : OwnI w.heap.size 100 2 w8 (.slice aq nq kq) (dues j.Open) := OwnI.drawn (by exact ownR) X8 (by omega)
      clear X8
      clear CR7 FR7 LR7 CS7 FS7 LS7
      have CR8 := KR8.cell; have FR8 := KR8.frozen; have LR8 := KR8.lt
      have CS8 := KS8.cell; have FS8 := KS8.frozen; have LS8 := KS8.lt
      go_wp2_with fail
      go_meet
      case rel => exact ⟨x2, (Blk.cast (by exact blkT) setsT), (by exact updT), (by exact curT), (Blk.cast (by exact blkT) setsT), (by exact ownR)⟩
    case rest =>
     revert wc; intro w8 hcut
     obtain ⟨ix1, KS8, E8, hc8, KR8, Oq8⟩ := hcut
     have hz8 := E8.size
     clear CR7 FR7 LR7 CS7 FS7 LS7
     have CR8 := KR8.cell; have FR8 := KR8.frozen; have LR8 := KR8.lt
     have CS8 := KS8.cell; have FS8 := KS8.frozen; have LS8 := KS8.lt
     go_upto_region 8 with (fail)
     go_cut [40] (fun cx0 wx => ∃ c3v : Bool, cx0 = .bool c3v ∧ Upd w wx [g] ∧ Cur B wx g ∧ Blk wx w.heap.size 32 #[.int .i64 0, .int .i64 0, .int .i64 0, .int .i64 0, .int .i64 0, .int .i64 0, .int .i64 0, .slice none 0 0, .bool false, .int .i64 0, .int .i64 0, .int .i64 0, .int .i64 0, .int .i64 0, .int .i64 0] ∧ Blk wx w2.heap.size 32 #[.int .i64 id1, .int .i64 y, .int .i64 j.Index, .int .i64 j.Time, .int .i64 j.Holder, .int .i64 j.Epoch, .int .i64 j.Until, .slice aq nq kq, .bool s0.Busy, .int .i64 s0.Op.Kind, .int .i64 s0.Op.A, .int .i64 s0.Op.B, .int .i64 s0.Op.C, .int .i64 s0.Op.D, .int .i64 ix1] ∧ OwnI w.heap.size 100 2 wx (.slice aq nq kq) (dues j.Open))
     case first =>
      go_wp2_with fail
      refine (l1Once_c (show Cur B _ g from by exact curT) 20).mono ?_
      rintro e w9 ⟨_, rfl, X9, hc9, c3, rfl⟩
      have hz9 := X9.size; (try simp only [szA] at hz9)
      have E9 : Upd w w9 [g] := Upd.trans (by exact updT) X9
      have KR9 : Blk w9 w.heap.size 32 #[.int .i64 0, .int .i64 0, .int .i64 0, .int .i64 0, .int .i64 0, .int .i64 0, .int .i64 0, .slice none 0 0, .bool false, .int .i64 0, .int .i64 0, .int .i64 0, .int .i64 0, .int .i64 0, .int .i64 0] := Blk.upd1 (Blk.cast (by exact blkT) (by first | rfl | simp)) X9 (by omega)
      have KS9 : Blk w9 w2.heap.size 32 #[.int .i64 id1, .int .i64 y, .int .i64 j.Index, .int .i64 j.Time, .int .i64 j.Holder, .int .i64 j.Epoch, .int .i64 j.Until, .slice aq nq kq, .bool s0.Busy, .int .i64 s0.Op.Kind, .int .i64 s0.Op.A, .int .i64 s0.Op.B, .int .i64 s0.Op.C, .int .i64 s0.Op.D, .int .i64 ix1] := Blk.upd1 (Blk.cast (by exact blkT) (by first | rfl | simp)) X9 (by omega)
      have Oq9 : OwnI w.heap.size 100 2 w9 (.slice aq nq kq) (dues j.Open) := OwnI.drawn (by exact ownR) X9 (by omega)
      clear X9
      clear CR8 FR8 LR8 CS8 FS8 LS8
      have CR9 := KR9.cell; have FR9 := KR9.frozen; have LR9 := KR9.lt
      have CS9 := KS9.cell; have FS9 := KS9.frozen; have LS9 := KS9.lt
      go_wp2_with fail
      go_meet
      case rel => exact ⟨c3, (by first | rfl | trivial), (by exact updT), (by exact curT), (Blk.cast (by exact blkT) setsT), (Blk.cast (by exact blkT) setsT), (by exact ownR)⟩
     case rest =>
      revert wc; intro w9 hcut
      obtain ⟨c3v, rfl, E9, hc9, KR9, KS9, Oq9⟩ := hcut
      have hz9 := E9.size
      clear CR8 FR8 LR8 CS8 FS8 LS8
      have CR9 := KR9.cell; have FR9 := KR9.frozen; have LR9 := KR9.lt
      have CS9 := KS9.cell; have FS9 := KS9.frozen; have LS9 := KS9.lt
      go_upto_if 40 with (fail)
      go_cut [] (fun wx => ∃ sq1 : Int, Blk wx w2.heap.size 32 #[.int .i64 id1, .int .i64 sq1, .int .i64 j.Index, .int .i64 j.Time, .int .i64 j.Holder, .int .i64 j.Epoch, .int .i64 j.Until, .slice aq nq kq, .bool s0.Busy, .int .i64 s0.Op.Kind, .int .i64 s0.Op.A, .int .i64 s0.Op.B, .int .i64 s0.Op.C, .int .i64 s0.Op.D, .int .i64 ix1] ∧ Upd w wx [g] ∧ Cur B wx g ∧ Blk wx w.heap.size 32 #[.int .i64 0, .int .i64 0, .int .i64 0, .int .i64 0, .int .i64 0, .int .i64 0, .int .i64 0, .slice none 0 0, .bool false, .int .i64 0, .int .i64 0, .int .i64 0, .int .i64 0, .int .i64 0, .int .i64 0] ∧ OwnI w.heap.size 100 2 wx (.slice aq nq kq) (dues j.Open))
      case first =>
       cases c3v
       ·
        skip
        go_wp2_with fail
        go_meet
        case rel => exact ⟨y, (Blk.cast (by exact blkT) setsT), (by exact updT), (by exact curT), (Blk.cast (by exact blkT) setsT), (by exact ownR)⟩
       ·
        skip
        go_wp2_with fail
        refine (l1Below_c (show Cur B _ g from by exact curT) 2).mono ?_
        rintro e w10 ⟨_, rfl, X10, hc10, x3, rfl, px3, qx3, rx3⟩
        have hz10 := X10.size; (try simp only [szA] at hz10)
        have E10 : Upd w w10 [g] := Upd.trans (by exact updT) X10
        have KR10 : Blk w10 w.heap.size 32 #[.int .i64 0, .int .i64 0, .int .i64 0, .int .i64 0, .int .i64 0, .int .i64 0, .int .i64 0, .slice none 0 0, .bool false, .int .i64 0, .int .i64 0, .int .i64 0, .int .i64 0, .int .i64 0, .int .i64 0] := Blk.upd1 (Blk.cast (by exact blkT) (by first | rfl | simp)) X10 (by omega)
        have KS10 : Blk w10 w2.heap.size 32 #[.int .i64 id1, .int .i64 y, .int .i64 j.Index, .int .i64 j.Time, .int .i64 j.Holder, .int .i64 j.Epoch, .int .i64 j.Until, .slice aq nq kq, .bool s0.Busy, .int .i64 s0.Op.Kind, .int .i64 s0.Op.A, .int .i64 s0.Op.B, .int .i64 s0.Op.C, .int .i64 s0.Op.D, .int .i64 ix1] := Blk.upd1 (Blk.cast (by exact blkT) (by first | rfl | simp)) X10 (by omega)
        have Oq10 : OwnI w.heap.size 100 2 w10 (.slice aq nq kq) (dues j.Open) := OwnI.drawn (by exact ownR) X10 (by omega)
        clear X10
        clear CR9 FR9 LR9 CS9 FS9 LS9
        have CR10 := KR10.cell; have FR10 := KR10.frozen; have LR10 := KR10.lt
        have CS10 := KS10.cell; have FS10 := KS10.frozen; have LS10 := KS10.lt
        have qx3 := qx3 (by decide); clear rx3
        have e3 : IntKind.i64.wrap (2000 - x3) = 2000 - x3 := by rw [IntKind.wrap_i64]; omega
        go_wp2_with fail
        go_meet
        case rel => exact ⟨(2000 - x3), (Blk.cast (by exact blkT) setsT), (by exact updT), (by exact curT), (Blk.cast (by exact blkT) setsT), (by exact ownR)⟩
      case rest =>
       revert wc; intro w10 hcut
       obtain ⟨sq1, KS10, E10, hc10, KR10, Oq10⟩ := hcut
       have hz10 := E10.size
       clear CR9 FR9 LR9 CS9 FS9 LS9
       have CR10 := KR10.cell; have FR10 := KR10.frozen; have LR10 := KR10.lt
       have CS10 := KS10.cell; have FS10 := KS10.frozen; have LS10 := KS10.lt
       go_wp2_with fail
       refine (l1Once_c (show Cur B _ g from by exact curT) 2).mono ?_
       rintro e w11 ⟨_, rfl, X11, hc11, b4, rfl⟩
       have hz11 := X11.size; (try simp only [szA] at hz11)
       have E11 : Upd w w11 [g] := Upd.trans (by exact updT) X11
       have KR11 : Blk w11 w.heap.size 32 #[.int .i64 0, .int .i64 0, .int .i64 0, .int .i64 0, .int .i64 0, .int .i64 0, .int .i64 0, .slice none 0 0, .bool false, .int .i64 0, .int .i64 0, .int .i64 0, .int .i64 0, .int .i64 0, .int .i64 0] := Blk.upd1 (Blk.cast (by exact blkT) (by first | rfl | simp)) X11 (by omega)
       have KS11 : Blk w11 w2.heap.size 32 #[.int .i64 id1, .int .i64 sq1, .int .i64 j.Index, .int .i64 j.Time, .int .i64 j.Holder, .int .i64 j.Epoch, .int .i64 j.Until, .slice aq nq kq, .bool s0.Busy, .int .i64 s0.Op.Kind, .int .i64 s0.Op.A, .int .i64 s0.Op.B, .int .i64 s0.Op.C, .int .i64 s0.Op.D, .int .i64 ix1] := Blk.upd1 (Blk.cast (by exact blkT) (by first | rfl | simp)) X11 (by omega)
       have Oq11 : OwnI w.heap.size 100 2 w11 (.slice aq nq kq) (dues j.Open) := OwnI.drawn (by exact ownR) X11 (by omega)
       clear X11
       clear CR10 FR10 LR10 CS10 FS10 LS10
       have CR11 := KR11.cell; have FR11 := KR11.frozen; have LR11 := KR11.lt
       have CS11 := KS11.cell; have FS11 := KS11.frozen; have LS11 := KS11.lt
       cases b4
       rotate_left
       ·
        skip
        go_upto_region 11 with (fail)
        go_cut [] (fun wx => ∃ s9 : DSched, ∃ av : Option Addr, ∃ nv : Nat, ∃ kv : Nat, Blk wx w2.heap.size 32 #[.int .i64 s9.Id, .int .i64 s9.Seq, .int .i64 s9.View.Jobs.Index, .int .i64 s9.View.Jobs.Time, .int .i64 s9.View.Jobs.Holder, .int .i64 s9.View.Jobs.Epoch, .int .i64 s9.View.Jobs.Until, .slice av nv kv, .bool s9.Busy, .int .i64 s9.Op.Kind, .int .i64 s9.Op.A, .int .i64 s9.Op.B, .int .i64 s9.Op.C, .int .i64 s9.Op.D, .int .i64 s9.Index] ∧ OwnI w.heap.size 100 2 wx (.slice av nv kv) (dues s9.View.Jobs.Open) ∧ Upd w wx [g] ∧ Cur B wx g ∧ Blk wx w.heap.size 32 #[.int .i64 0, .int .i64 0, .int .i64 0, .int .i64 0, .int .i64 0, .int .i64 0, .int .i64 0, .slice none 0 0, .bool false, .int .i64 0, .int .i64 0, .int .i64 0, .int .i64 0, .int .i64 0, .int .i64 0])
        case first =>
         go_wp2_with fail
         refine wp_region_held_drew (S := fun w' => Upd w w' [g] ∧ Cur B w' g) (by kernel_rfl) (by (try dsimp only); exact ⟨(by exact updT), (by exact curT)⟩) (fun hHeld => ?_)
         refine wpAnyH_take (i := 1) (v := ?_) rfl (by kernel_rfl) (by kernel_rfl) (by kernel_rfl) (fun _ _ _ h => h) (Or.inl ⟨by rfl, ?_⟩) (by assumption) ?_
         rotate_left
         focus (intro w hSw; (try dsimp only at hSw); go_simp <;> with_reducible rfl)
         (try simp only [redA, Act.put])
         refine wpAnyH_take (i := 2) (v := ?_) rfl (by kernel_rfl) (by kernel_rfl) (by kernel_rfl) (fun _ _ _ h => h) (Or.inl ⟨by rfl, ?_⟩) (by assumption) ?_
         rotate_left
         focus (intro w hSw; (try dsimp only at hSw); go_simp <;> with_reducible rfl)
         (try simp only [redA, Act.put])
         refine wpAnyH_ready (rs := [0, 3]) (by kernel_rfl) (by simp) ?_
         refine AllReadyH.cons rfl (fun Kz hKz => ?_) (AllReadyH.cons rfl (fun Kz hKz => ?_) AllReadyH.nil)
         ·
          skip
          (try simp only [redA])
          go_simp
          refine hKz.out _ _ (by (try dsimp only); exact ⟨(by exact updT), (by exact curT)⟩) (fun hHeld => ?_)
          clear hKz Kz
          (try simp only [redA, Act.put])
          refine wpAnyH_ready (rs := [3]) (by kernel_rfl) (by simp) ?_
          refine AllReadyH.cons rfl (fun Kz hKz => ?_) AllReadyH.nil
          (try simp only [redA])
          go_simp
          refine hKz.out _ _ (by (try dsimp only); exact ⟨(by exact updT), (by exact curT)⟩) (fun hHeld => ?_)
          clear hKz Kz
          (try simp only [redA, Act.put])
          refine wpAnyH_ready (rs := [4]) (by kernel_rfl) (by simp) ?_
          refine AllReadyH.cons rfl (fun Kz hKz => ?_) AllReadyH.nil
          (try simp only [redA])
          go_simp
          go_at_call 49
          refine (l20DrawNow_c (show Cur B _ g from by exact curT) _ _ _ _ _ _ _ _).mono ?_
          rintro e w12 ⟨_, rfl, X12, hc12, nw, rfl⟩
          have hz12 := X12.size; (try simp only [szA] at hz12)
          have E12 : Upd w w12 [g] := Upd.trans (by exact updT) X12
          have KR12 : Blk w12 w.heap.size 32 #[.int .i64 0, .int .i64 0, .int .i64 0, .int .i64 0, .int .i64 0, .int .i64 0, .int .i64 0, .slice none 0 0, .bool false, .int .i64 0, .int .i64 0, .int .i64 0, .int .i64 0, .int .i64 0, .int .i64 0] := Blk.upd1 (Blk.cast (by exact blkT) (by first | rfl | simp)) X12 (by omega)
          have KS12 : Blk w12 w2.heap.size 32 #[.int .i64 id1, .int .i64 sq1, .int .i64 j.Index, .int .i64 j.Time, .int .i64 j.Holder, .int .i64 j.Epoch, .int .i64 j.Until, .slice aq nq kq, .bool s0.Busy, .int .i64 s0.Op.Kind, .int .i64 s0.Op.A, .int .i64 s0.Op.B, .int .i64 s0.Op.C, .int .i64 s0.Op.D, .int .i64 ix1] := Blk.upd1 (Blk.cast (by exact blkT) (by first | rfl | simp)) X12 (by omega)
          have Oq12 : OwnI w.heap.size 100 2 w12 (.slice aq nq kq) (dues j.Open) := OwnI.drawn (by exact ownR) X12 (by omega)
          clear X12
          clear CR11 FR11 LR11 CS11 FS11 LS11
          have CR12 := KR12.cell; have FR12 := KR12.frozen; have LR12 := KR12.lt
          have CS12 := KS12.cell; have FS12 := KS12.frozen; have LS12 := KS12.lt
          refine hKz.out _ _ (by (try dsimp only); exact ⟨(by exact updT), (by exact curT)⟩) (fun hHeld => ?_)
          clear hKz Kz
          (try simp only [redA, Act.put])
          refine wpAnyH_ready (rs := [5]) (by kernel_rfl) (by simp) ?_
          refine AllReadyH.cons rfl (fun Kz hKz => ?_) AllReadyH.nil
          (try simp only [redA])
          go_simp
          go_at_call 15
          refine (sDecided_k (s := ⟨id1, sq1, ⟨⟨j.Index, j.Time, j.Holder, j.Epoch, j.Until, j.Open⟩⟩, s0.Busy, ⟨s0.Op.Kind, s0.Op.A, s0.Op.B, s0.Op.C, s0.Op.D⟩, ix1⟩) ⟨_, rfl, OwnI.ints (show OwnI w.heap.size 100 2 _ (.slice aq nq kq) (dues j.Open) from (by exact ownR))⟩ _).mono ?_
          rintro e w13 ⟨_, rfl, hx13, FD, gd⟩
          have hz13 := hx13.size; (try simp only [szA] at hz13)
          have E13 : Upd w w13 [g] := Upd.ext (by exact updT) hx13
          have hc13 : Cur B w13 g := Cur.ext (by exact curT) hx13
          have KR13 : Blk w13 w.heap.size 32 #[.int .i64 0, .int .i64 0, .int .i64 0, .int .i64 0, .int .i64 0, .int .i64 0, .int .i64 0, .slice none 0 0, .bool false, .int .i64 0, .int .i64 0, .int .i64 0, .int .i64 0, .int .i64 0, .int .i64 0] := Blk.ext (Blk.cast (by exact blkT) (by first | rfl | simp)) hx13
          have KS13 : Blk w13 w2.heap.size 32 #[.int .i64 id1, .int .i64 sq1, .int .i64 j.Index, .int .i64 j.Time, .int .i64 j.Holder, .int .i64 j.Epoch, .int .i64 j.Until, .slice aq nq kq, .bool s0.Busy, .int .i64 s0.Op.Kind, .int .i64 s0.Op.A, .int .i64 s0.Op.B, .int .i64 s0.Op.C, .int .i64 s0.Op.D, .int .i64 ix1] := Blk.ext (Blk.cast (by exact blkT) (by first | rfl | simp)) hx13
          have Oq13 : OwnI w.heap.size 100 2 w13 (.slice aq nq kq) (dues j.Open) := OwnI.ext1 (by exact ownR) hx13
          clear hx13
          clear CR12 FR12 LR12 CS12 FS12 LS12
          have CR13 := KR13.cell; have FR13 := KR13.frozen; have LR13 := KR13.lt
          have CS13 := KS13.cell; have FS13 := KS13.frozen; have LS13 := KS13.lt
          generalize decided _ _ = s9 at gd
          obtain ⟨tq, rfl, HQ, -⟩ := gd
          clear Oq13
          obtain ⟨av, nv, kv, rfl⟩ := HQ.shape
          have Oq13 : OwnI w.heap.size 100 2 w13 (.slice av nv kv) (dues s9.View.Jobs.Open) := OwnI.mono HQ (by first | omega | (simp only [szA]; omega))
          clear HQ
          refine hKz.out _ _ (by (try dsimp only); exact ⟨(by exact updT), (by exact curT)⟩) (fun hHeld => ?_)
          clear hKz Kz
          (try simp only [redA, Act.put])
          refine wpAnyH_ready (rs := [6]) (by kernel_rfl) (by simp) ?_
          refine AllReadyH.cons rfl (fun Kz hKz => ?_) AllReadyH.nil
          (try simp only [redA])
          first | (rw [if_pos (by rfl)]; refine wp_store_row 32 (.tmp 3) (.tmp 52) (by rfl) _ #[.int .i64 s9.Id, .int .i64 s9.Seq, .int .i64 s9.View.Jobs.Index, .int .i64 s9.View.Jobs.Time, .int .i64 s9.View.Jobs.Holder, .int .i64 s9.View.Jobs.Epoch, .int .i64 s9.View.Jobs.Until, .slice av nv kv, .bool s9.Busy, .int .i64 s9.Op.Kind, .int .i64 s9.Op.A, .int .i64 s9.Op.B, .int .i64 s9.Op.C, .int .i64 s9.Op.D, .int .i64 s9.Index] (by rfl) (by rfl) 32 _ KS13 (by kernel_rfl) rfl (by kernel_rfl) ?_) | go_simp
          refine hKz.out _ _ (by (try dsimp only); exact ⟨(by exact updT), (by exact curT)⟩) (fun hHeld => ?_)
          clear hKz Kz
          (try simp only [redA, Act.put])
          refine wpAnyH_done (by kernel_rfl) ?_ _
          go_wp2_with fail
          go_meet
          case rel => exact ⟨s9, av, nv, kv, (Blk.cast (by exact blkT) setsT), (by exact ownR), (by exact updT), (by exact curT), (Blk.cast (by exact blkT) setsT)⟩
         ·
          skip
          (try simp only [redA])
          go_simp
          refine hKz.out _ _ (by (try dsimp only); exact ⟨(by exact updT), (by exact curT)⟩) (fun hHeld => ?_)
          clear hKz Kz
          (try simp only [redA, Act.put])
          refine wpAnyH_ready (rs := [0, 4]) (by kernel_rfl) (by simp) ?_
          refine AllReadyH.cons rfl (fun Kz hKz => ?_) (AllReadyH.cons rfl (fun Kz hKz => ?_) AllReadyH.nil)
          ·
           skip
           (try simp only [redA])
           go_simp
           refine hKz.out _ _ (by (try dsimp only); exact ⟨(by exact updT), (by exact curT)⟩) (fun hHeld => ?_)
           clear hKz Kz
           (try simp only [redA, Act.put])
           refine wpAnyH_ready (rs := [4]) (by kernel_rfl) (by simp) ?_
           refine AllReadyH.cons rfl (fun Kz hKz => ?_) AllReadyH.nil
           (try simp only [redA])
           go_simp
           go_at_call 49
           refine (l20DrawNow_c (show Cur B _ g from by exact curT) _ _ _ _ _ _ _ _).mono ?_
           rintro e w12 ⟨_, rfl, X12, hc12, nw, rfl⟩
           have hz12 := X12.size; (try simp only [szA] at hz12)
           have E12 : Upd w w12 [g] := Upd.trans (by exact updT) X12
           have KR12 : Blk w12 w.heap.size 32 #[.int .i64 0, .int .i64 0, .int .i64 0, .int .i64 0, .int .i64 0, .int .i64 0, .int .i64 0, .slice none 0 0, .bool false, .int .i64 0, .int .i64 0, .int .i64 0, .int .i64 0, .int .i64 0, .int .i64 0] := Blk.upd1 (Blk.cast (by exact blkT) (by first | rfl | simp)) X12 (by omega)
           have KS12 : Blk w12 w2.heap.size 32 #[.int .i64 id1, .int .i64 sq1, .int .i64 j.Index, .int .i64 j.Time, .int .i64 j.Holder, .int .i64 j.Epoch, .int .i64 j.Until, .slice aq nq kq, .bool s0.Busy, .int .i64 s0.Op.Kind, .int .i64 s0.Op.A, .int .i64 s0.Op.B, .int .i64 s0.Op.C, .int .i64 s0.Op.D, .int .i64 ix1] := Blk.upd1 (Blk.cast (by exact blkT) (by first | rfl | simp)) X12 (by omega)
           have Oq12 : OwnI w.heap.size 100 2 w12 (.slice aq nq kq) (dues j.Open) := OwnI.drawn (by exact ownR) X12 (by omega)
           clear X12
           clear CR11 FR11 LR11 CS11 FS11 LS11
           have CR12 := KR12.cell; have FR12 := KR12.frozen; have LR12 := KR12.lt
           have CS12 := KS12.cell; have FS12 := KS12.frozen; have LS12 := KS12.lt
           refine hKz.out _ _ (by (try dsimp only); exact ⟨(by exact updT), (by exact curT)⟩) (fun hHeld => ?_)
           clear hKz Kz
           (try simp only [redA, Act.put])
           refine wpAnyH_ready (rs := [5]) (by kernel_rfl) (by simp) ?_
           refine AllReadyH.cons rfl (fun Kz hKz => ?_) AllReadyH.nil
           (try simp only [redA])
           go_simp
           go_at_call 15
           refine (sDecided_k (s := ⟨id1, sq1, ⟨⟨j.Index, j.Time, j.Holder, j.Epoch, j.Until, j.Open⟩⟩, s0.Busy, ⟨s0.Op.Kind, s0.Op.A, s0.Op.B, s0.Op.C, s0.Op.D⟩, ix1⟩) ⟨_, rfl, OwnI.ints (show OwnI w.heap.size 100 2 _ (.slice aq nq kq) (dues j.Open) from (by exact ownR))⟩ _).mono ?_
           rintro e w13 ⟨_, rfl, hx13, FD, gd⟩
           have hz13 := hx13.size; (try simp only [szA] at hz13)
           have E13 : Upd w w13 [g] := Upd.ext (by exact updT) hx13
           have hc13 : Cur B w13 g := Cur.ext (by exact curT) hx13
           have KR13 : Blk w13 w.heap.size 32 #[.int .i64 0, .int .i64 0, .int .i64 0, .int .i64 0, .int .i64 0, .int .i64 0, .int .i64 0, .slice none 0 0, .bool false, .int .i64 0, .int .i64 0, .int .i64 0, .int .i64 0, .int .i64 0, .int .i64 0] := Blk.ext (Blk.cast (by exact blkT) (by first | rfl | simp)) hx13
           have KS13 : Blk w13 w2.heap.size 32 #[.int .i64 id1, .int .i64 sq1, .int .i64 j.Index, .int .i64 j.Time, .int .i64 j.Holder, .int .i64 j.Epoch, .int .i64 j.Until, .slice aq nq kq, .bool s0.Busy, .int .i64 s0.Op.Kind, .int .i64 s0.Op.A, .int .i64 s0.Op.B, .int .i64 s0.Op.C, .int .i64 s0.Op.D, .int .i64 ix1] := Blk.ext (Blk.cast (by exact blkT) (by first | rfl | simp)) hx13
           have Oq13 : OwnI w.heap.size 100 2 w13 (.slice aq nq kq) (dues j.Open) := OwnI.ext1 (by exact ownR) hx13
           clear hx13
           clear CR12 FR12 LR12 CS12 FS12 LS12
           have CR13 := KR13.cell; have FR13 := KR13.frozen; have LR13 := KR13.lt
           have CS13 := KS13.cell; have FS13 := KS13.frozen; have LS13 := KS13.lt
           generalize decided _ _ = s9 at gd
           obtain ⟨tq, rfl, HQ, -⟩ := gd
           clear Oq13
           obtain ⟨av, nv, kv, rfl⟩ := HQ.shape
           have Oq13 : OwnI w.heap.size 100 2 w13 (.slice av nv kv) (dues s9.View.Jobs.Open) := OwnI.mono HQ (by first | omega | (simp only [szA]; omega))
           clear HQ
           refine hKz.out _ _ (by (try dsimp only); exact ⟨(by exact updT), (by exact curT)⟩) (fun hHeld => ?_)
           clear hKz Kz
           (try simp only [redA, Act.put])
           refine wpAnyH_ready (rs := [6]) (by kernel_rfl) (by simp) ?_
           refine AllReadyH.cons rfl (fun Kz hKz => ?_) AllReadyH.nil
           (try simp only [redA])
           first | (rw [if_pos (by rfl)]; refine wp_store_row 32 (.tmp 3) (.tmp 52) (by rfl) _ #[.int .i64 s9.Id, .int .i64 s9.Seq, .int .i64 s9.View.Jobs.Index, .int .i64 s9.View.Jobs.Time, .int .i64 s9.View.Jobs.Holder, .int .i64 s9.View.Jobs.Epoch, .int .i64 s9.View.Jobs.Until, .slice av nv kv, .bool s9.Busy, .int .i64 s9.Op.Kind, .int .i64 s9.Op.A, .int .i64 s9.Op.B, .int .i64 s9.Op.C, .int .i64 s9.Op.D, .int .i64 s9.Index] (by rfl) (by rfl) 32 _ KS13 (by kernel_rfl) rfl (by kernel_rfl) ?_) | go_simp
           refine hKz.out _ _ (by (try dsimp only); exact ⟨(by exact updT), (by exact curT)⟩) (fun hHeld => ?_)
           clear hKz Kz
           (try simp only [redA, Act.put])
           refine wpAnyH_done (by kernel_rfl) ?_ _
           go_wp2_with fail
           go_meet
           case rel => exact ⟨s9, av, nv, kv, (Blk.cast (by exact blkT) setsT), (by exact ownR), (by exact updT), (by exact curT), (Blk.cast (by exact blkT) setsT)⟩
          ·
           skip
           (try simp only [redA])
           go_simp
           go_at_call 49
           refine (l20DrawNow_c (show Cur B _ g from by exact curT) _ _ _ _ _ _ _ _).mono ?_
           rintro e w12 ⟨_, rfl, X12, hc12, nw, rfl⟩
           have hz12 := X12.size; (try simp only [szA] at hz12)
           have E12 : Upd w w12 [g] := Upd.trans (by exact updT) X12
           have KR12 : Blk w12 w.heap.size 32 #[.int .i64 0, .int .i64 0, .int .i64 0, .int .i64 0, .int .i64 0, .int .i64 0, .int .i64 0, .slice none 0 0, .bool false, .int .i64 0, .int .i64 0, .int .i64 0, .int .i64 0, .int .i64 0, .int .i64 0] := Blk.upd1 (Blk.cast (by exact blkT) (by first | rfl | simp)) X12 (by omega)
           have KS12 : Blk w12 w2.heap.size 32 #[.int .i64 id1, .int .i64 sq1, .int .i64 j.Index, .int .i64 j.Time, .int .i64 j.Holder, .int .i64 j.Epoch, .int .i64 j.Until, .slice aq nq kq, .bool s0.Busy, .int .i64 s0.Op.Kind, .int .i64 s0.Op.A, .int .i64 s0.Op.B, .int .i64 s0.Op.C, .int .i64 s0.Op.D, .int .i64 ix1] := Blk.upd1 (Blk.cast (by exact blkT) (by first | rfl | simp)) X12 (by omega)
           have Oq12 : OwnI w.heap.size 100 2 w12 (.slice aq nq kq) (dues j.Open) := OwnI.drawn (by exact ownR) X12 (by omega)
           clear X12
           clear CR11 FR11 LR11 CS11 FS11 LS11
           have CR12 := KR12.cell; have FR12 := KR12.frozen; have LR12 := KR12.lt
           have CS12 := KS12.cell; have FS12 := KS12.frozen; have LS12 := KS12.lt
           refine hKz.out _ _ (by (try dsimp only); exact ⟨(by exact updT), (by exact curT)⟩) (fun hHeld => ?_)
           clear hKz Kz
           (try simp only [redA, Act.put])
           refine wpAnyH_ready (rs := [0]) (by kernel_rfl) (by simp) ?_
           refine AllReadyH.cons rfl (fun Kz hKz => ?_) AllReadyH.nil
           (try simp only [redA])
           go_simp
           refine hKz.out _ _ (by (try dsimp only); exact ⟨(by exact updT), (by exact curT)⟩) (fun hHeld => ?_)
           clear hKz Kz
           (try simp only [redA, Act.put])
           refine wpAnyH_ready (rs := [5]) (by kernel_rfl) (by simp) ?_
           refine AllReadyH.cons rfl (fun Kz hKz => ?_) AllReadyH.nil
           (try simp only [redA])
           go_simp
           go_at_call 15
           refine (sDecided_k (s := ⟨id1, sq1, ⟨⟨j.Index, j.Time, j.Holder, j.Epoch, j.Until, j.Open⟩⟩, s0.Busy, ⟨s0.Op.Kind, s0.Op.A, s0.Op.B, s0.Op.C, s0.Op.D⟩, ix1⟩) ⟨_, rfl, OwnI.ints (show OwnI w.heap.size 100 2 _ (.slice aq nq kq) (dues j.Open) from (by exact ownR))⟩ _).mono ?_
           rintro e w13 ⟨_, rfl, hx13, FD, gd⟩
           have hz13 := hx13.size; (try simp only [szA] at hz13)
           have E13 : Upd w w13 [g] := Upd.ext (by exact updT) hx13
           have hc13 : Cur B w13 g := Cur.ext (by exact curT) hx13
           have KR13 : Blk w13 w.heap.size 32 #[.int .i64 0, .int .i64 0, .int .i64 0, .int .i64 0, .int .i64 0, .int .i64 0, .int .i64 0, .slice none 0 0, .bool false, .int .i64 0, .int .i64 0, .int .i64 0, .int .i64 0, .int .i64 0, .int .i64 0] := Blk.ext (Blk.cast (by exact blkT) (by first | rfl | simp)) hx13
           have KS13 : Blk w13 w2.heap.size 32 #[.int .i64 id1, .int .i64 sq1, .int .i64 j.Index, .int .i64 j.Time, .int .i64 j.Holder, .int .i64 j.Epoch, .int .i64 j.Until, .slice aq nq kq, .bool s0.Busy, .int .i64 s0.Op.Kind, .int .i64 s0.Op.A, .int .i64 s0.Op.B, .int .i64 s0.Op.C, .int .i64 s0.Op.D, .int .i64 ix1] := Blk.ext (Blk.cast (by exact blkT) (by first | rfl | simp)) hx13
           have Oq13 : OwnI w.heap.size 100 2 w13 (.slice aq nq kq) (dues j.Open) := OwnI.ext1 (by exact ownR) hx13
           clear hx13
           clear CR12 FR12 LR12 CS12 FS12 LS12
           have CR13 := KR13.cell; have FR13 := KR13.frozen; have LR13 := KR13.lt
           have CS13 := KS13.cell; have FS13 := KS13.frozen; have LS13 := KS13.lt
           generalize decided _ _ = s9 at gd
           obtain ⟨tq, rfl, HQ, -⟩ := gd
           clear Oq13
           obtain ⟨av, nv, kv, rfl⟩ := HQ.shape
           have Oq13 : OwnI w.heap.size 100 2 w13 (.slice av nv kv) (dues s9.View.Jobs.Open) := OwnI.mono HQ (by first | omega | (simp only [szA]; omega))
           clear HQ
           refine hKz.out _ _ (by (try dsimp only); exact ⟨(by exact updT), (by exact curT)⟩) (fun hHeld => ?_)
           clear hKz Kz
           (try simp only [redA, Act.put])
           refine wpAnyH_ready (rs := [6]) (by kernel_rfl) (by simp) ?_
           refine AllReadyH.cons rfl (fun Kz hKz => ?_) AllReadyH.nil
           (try simp only [redA])
           first | (rw [if_pos (by rfl)]; refine wp_store_row 32 (.tmp 3) (.tmp 52) (by rfl) _ #[.int .i64 s9.Id, .int .i64 s9.Seq, .int .i64 s9.View.Jobs.Index, .int .i64 s9.View.Jobs.Time, .int .i64 s9.View.Jobs.Holder, .int .i64 s9.View.Jobs.Epoch, .int .i64 s9.View.Jobs.Until, .slice av nv kv, .bool s9.Busy, .int .i64 s9.Op.Kind, .int .i64 s9.Op.A, .int .i64 s9.Op.B, .int .i64 s9.Op.C, .int .i64 s9.Op.D, .int .i64 s9.Index] (by rfl) (by rfl) 32 _ KS13 (by kernel_rfl) rfl (by kernel_rfl) ?_) | go_simp
           refine hKz.out _ _ (by (try dsimp only); exact ⟨(by exact updT), (by exact curT)⟩) (fun hHeld => ?_)
           clear hKz Kz
           (try simp only [redA, Act.put])
           refine wpAnyH_done (by kernel_rfl) ?_ _
           go_wp2_with fail
           go_meet
           case rel => exact ⟨s9, av, nv, kv, (Blk.cast (by exact blkT) setsT), (by exact ownR), (by exact updT), (by exact curT), (Blk.cast (by exact blkT) setsT)⟩
        case rest =>
         revert wc; intro w12 hcut
         obtain ⟨s9, av, nv, kv, KS12, Oq12, E12, hc12, KR12⟩ := hcut
         have hz12 := E12.size
         clear CR11 FR11 LR11 CS11 FS11 LS11
         have CR12 := KR12.cell; have FR12 := KR12.frozen; have LR12 := KR12.lt
         have CS12 := KS12.cell; have FS12 := KS12.frozen; have LS12 := KS12.lt
         go_wp2_with (refine wpList_store_box rfl 32 (.tmp 2) (.tmp 53) rfl rfl rfl _ (show Blk _ _ 32 #[.int .i64 0, .int .i64 0, .int .i64 0, .int .i64 0, .int .i64 0, .int .i64 0, .int .i64 0, .slice none 0 0, .bool false, .int .i64 0, .int .i64 0, .int .i64 0, .int .i64 0, .int .i64 0, .int .i64 0] from by exact blkT) (by kernel_rfl) rfl (by kernel_rfl) ?_; intro KF)
         generalize hwz : World.setRow _ _ _ = wz at KF ⊢
         have CKF := KF.cell; have FKF := KF.frozen; have LKF := KF.lt
         refine bodyPost_ret (by simp [results, Tryz.results75, go_sem, CKF, FKF, LKF]; try rfl) rfl ?_
         exact ⟨_, rfl, by rw [← hwz]; exact updT, by rw [← hwz]; exact curT, s9, _, rfl, by rw [← hwz]; exact OwnI.mono (show OwnI w.heap.size 100 2 _ (.slice av nv kv) (dues s9.View.Jobs.Open) from by exact ownR) (by omega)⟩
       ·
        skip
        go_wp2_with (refine wpList_store_box rfl 32 (.tmp 2) (.tmp 53) rfl rfl rfl _ (show Blk _ _ 32 #[.int .i64 0, .int .i64 0, .int .i64 0, .int .i64 0, .int .i64 0, .int .i64 0, .int .i64 0, .slice none 0 0, .bool false, .int .i64 0, .int .i64 0, .int .i64 0, .int .i64 0, .int .i64 0, .int .i64 0] from by exact blkT) (by kernel_rfl) rfl (by kernel_rfl) ?_; intro KF)
        generalize hwz : World.setRow _ _ _ = wz at KF ⊢
        have CKF := KF.cell; have FKF := KF.frozen; have LKF := KF.lt
        refine bodyPost_ret (by simp [results, Tryz.results75, go_sem, CKF, FKF, LKF]; try rfl) rfl ?_
        exact ⟨_, rfl, by rw [← hwz]; exact updT, by rw [← hwz]; exact curT, ⟨id1, sq1, ⟨⟨j.Index, j.Time, j.Holder, j.Epoch, j.Until, j.Open⟩⟩, s0.Busy, ⟨s0.Op.Kind, s0.Op.A, s0.Op.B, s0.Op.C, s0.Op.D⟩, ix1⟩, _, rfl, by rw [← hwz]; exact OwnI.mono (show OwnI w.heap.size 100 2 _ (.slice aq nq kq) (dues j.Open) from by exact ownR) (by omega)⟩

end Go.Proofs.YtcnioiieiebodaaGreat
