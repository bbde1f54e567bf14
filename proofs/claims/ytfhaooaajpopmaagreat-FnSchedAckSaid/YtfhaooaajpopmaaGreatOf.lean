/- Contracts and plain laws: DG2. -/
import Derived.Test.YtfhaooaajpopmaaGreatMa
import Derived.Deep.DeepCutAuto
import Derived.Test.YtfhaooaajpopmaaGreatNd
import Derived.Test.YtfhaooaajpopmaaGreatNc
set_option linter.unusedSimpArgs false
set_option linter.unusedVariables false
set_option maxHeartbeats 400000000
set_option maxRecDepth 100000
namespace Go.Proofs.YtfhaooaajpopmaaGreat
open Go.RowKit Go.G8
theorem l21Draw_c {B : Nat} {w : World} {g : Nat} (h : Cur B w g) : Calls Tryz.prog 32 #[.pointer (some ⟨g, 0, none⟩)] w (Dr B w g fun v w' => ∃ s : DSched, IsSched w.heap.size w' v s) := by
 have hc0 := h; have E0 : Upd w w [g] := Upd.refl _ _
 have hg0 := h.lt
 go_enter Tryz.func32, Tryz.ntmps32
 go_wp2_with fail
 refine (l1Below_c (cU B) 2).mono ?_
 rintro e w1 ⟨_, rfl, X1, hc1, x, rfl, px, qx, rx⟩
 have hz1 := X1.sz
 have E1 : Upd w w1 [g] := X1.up
 have KR1 : Blk w1 w.heap.size 32 #[.int .i64 0, .int .i64 0, .int .i64 0, .int .i64 0, .int .i64 0, .int .i64 0, .int .i64 0, .slice none 0 0, .bool false, .int .i64 0, .int .i64 0, .int .i64 0, .int .i64 0, .int .i64 0, .int .i64 0] := bU X1
 clear X1
 obtain ⟨CR1, FR1, LR1⟩ := KR1.cfl
 have qx := qx dC; clear rx
 go_wp2_with fail
 refine (sNewSched_c _ _).mono ?_
 rintro e w2 ⟨_, rfl, hx2, HS⟩
 have hz2 := hx2.size; (try simp only [szA] at hz2)
 have E2 : Upd w w2 [g] := Upd.ext (by exact updT) hx2
 have hc2 : Cur B w2 g := Cur.ext (by exact curT) hx2
 have KR2 := KR1.exv hx2
 clear hx2
 clear CR1 FR1 LR1
 obtain ⟨CR2, FR2, LR2⟩ := KR2.cfl
 generalize newSched _ = s0 at HS
 obtain ⟨tq, rfl, HQ⟩ := HS
 obtain ⟨az, nz, kz, rfl⟩ := HQ.shape
 have Oq2 : OwnI w.heap.size 72 2 w2 (.slice az nz kz) (dues s0.View.Jobs.Open) := OwnI.mono HQ zT
 clear HQ
 clear Oq2
 go_wp2_with fail
 refine (l20DrawJobs_c (cU B)).mono ?_
 rintro e w3 ⟨_, rfl, X3, hc3, j, hj, hl⟩
 have hz3 := X3.sz
 have E3 : Upd w w3 [g] := X3.up
 have KR3 := KR2.upv X3
 have KS3 : Blk w3 w2.heap.size 32 #[.int .i64 s0.Id, .int .i64 s0.Seq, .int .i64 s0.View.Jobs.Index, .int .i64 s0.View.Jobs.Time, .int .i64 s0.View.Jobs.Holder, .int .i64 s0.View.Jobs.Epoch, .int .i64 s0.View.Jobs.Until, .slice az nz kz, .bool s0.Busy, .int .i64 s0.Op.Kind, .int .i64 s0.Op.A, .int .i64 s0.Op.B, .int .i64 s0.Op.C, .int .i64 s0.Op.D, .int .i64 s0.Index] := bU X3
 clear X3
 clear CR2 FR2 LR2
 obtain ⟨CR3, FR3, LR3⟩ := KR3.cfl
 obtain ⟨CS3, FS3, LS3⟩ := KS3.cfl
 obtain ⟨tq, rfl, HQ⟩ := hj
 obtain ⟨aq, nq, kq, rfl⟩ := HQ.shape
 have Oq3 : OwnI w.heap.size 72 2 w3 (.slice aq nq kq) (dues j.Open) := OwnI.mono HQ zT
 clear HQ
 go_wp2_with fail
 refine (l1Below_c (cU B) 9).mono ?_
 rintro e w4 ⟨_, rfl, X4, hc4, y, rfl, py, qy, ry⟩
 have hz4 := X4.sz
 have E4 : Upd w w4 [g] := X4.up
 have KR4 := KR3.upv X4
 have KS4 : Blk w4 w2.heap.size 32 #[.int .i64 s0.Id, .int .i64 s0.Seq, .int .i64 j.Index, .int .i64 j.Time, .int .i64 j.Holder, .int .i64 j.Epoch, .int .i64 j.Until, .slice aq nq kq, .bool s0.Busy, .int .i64 s0.Op.Kind, .int .i64 s0.Op.A, .int .i64 s0.Op.B, .int .i64 s0.Op.C, .int .i64 s0.Op.D, .int .i64 s0.Index] := bU X4
 have Oq4 : OwnI w.heap.size 72 2 w4 (.slice aq nq kq) (dues j.Open) := OwnI.drawn (by exact ownR) X4 oM
 clear X4
 clear CR3 FR3 LR3 CS3 FS3 LS3
 obtain ⟨CR4, FR4, LR4⟩ := KR4.cfl
 obtain ⟨CS4, FS4, LS4⟩ := KS4.cfl
 have qy := qy dC; clear ry
 go_upto_region 4 with (fail)
 go_cut [23] (fun cx0 wx => ∃ c1v : Bool, cx0 = .bool c1v ∧ Upd w wx [g] ∧ Cur B wx g ∧ Blk wx w.heap.size 32 #[.int .i64 0, .int .i64 0, .int .i64 0, .int .i64 0, .int .i64 0, .int .i64 0, .int .i64 0, .slice none 0 0, .bool false, .int .i64 0, .int .i64 0, .int .i64 0, .int .i64 0, .int .i64 0, .int .i64 0] ∧ Blk wx w2.heap.size 32 #[.int .i64 s0.Id, .int .i64 y, .int .i64 j.Index, .int .i64 j.Time, .int .i64 j.Holder, .int .i64 j.Epoch, .int .i64 j.Until, .slice aq nq kq, .bool s0.Busy, .int .i64 s0.Op.Kind, .int .i64 s0.Op.A, .int .i64 s0.Op.B, .int .i64 s0.Op.C, .int .i64 s0.Op.D, .int .i64 s0.Index] ∧ OwnI w.heap.size 72 2 wx (.slice aq nq kq) (dues j.Open))
 case first =>
  go_wp2_with fail
  refine (l1Once_c (cU B) 2).mono ?_
  rintro e w5 ⟨_, rfl, X5, hc5, c1, rfl⟩
  have hz5 := X5.sz
  have E5 : Upd w w5 [g] := X5.up
  have KR5 := KR4.upv X5
  have KS5 : Blk w5 w2.heap.size 32 #[.int .i64 s0.Id, .int .i64 y, .int .i64 j.Index, .int .i64 j.Time, .int .i64 j.Holder, .int .i64 j.Epoch, .int .i64 j.Until, .slice aq nq kq, .bool s0.Busy, .int .i64 s0.Op.Kind, .int .i64 s0.Op.A, .int .i64 s0.Op.B, .int .i64 s0.Op.C, .int .i64 s0.Op.D, .int .i64 s0.Index] := bU X5
  have Oq5 : OwnI w.heap.size 72 2 w5 (.slice aq nq kq) (dues j.Open) := OwnI.drawn (by exact ownR) X5 oM
  clear X5
  clear CR4 FR4 LR4 CS4 FS4 LS4
  obtain ⟨CR5, FR5, LR5⟩ := KR5.cfl
  obtain ⟨CS5, FS5, LS5⟩ := KS5.cfl
  cases c1
  ·
   go_wp2_with fail
   go_meet
   case rel => exact ⟨_, (by first | rfl | trivial), (by exact updT), (by exact curT), bC, bC, (by exact ownR)⟩
  go_wp2_with fail
  go_meet
  case rel => exact ⟨_, (by first | rfl | trivial), (by exact updT), (by exact curT), bC, bC, (by exact ownR)⟩
 revert wc; intro w5 hcut
 obtain ⟨c1v, rfl, E5, hc5, KR5, KS5, Oq5⟩ := hcut
 have hz5 := E5.size
 clear CR4 FR4 LR4 CS4 FS4 LS4
 obtain ⟨CR5, FR5, LR5⟩ := KR5.cfl
 obtain ⟨CS5, FS5, LS5⟩ := KS5.cfl
 go_upto_if 23 with (fail)
 go_cut [] (fun wx => ∃ id1 : Int, Blk wx w2.heap.size 32 #[.int .i64 id1, .int .i64 y, .int .i64 j.Index, .int .i64 j.Time, .int .i64 j.Holder, .int .i64 j.Epoch, .int .i64 j.Until, .slice aq nq kq, .bool s0.Busy, .int .i64 s0.Op.Kind, .int .i64 s0.Op.A, .int .i64 s0.Op.B, .int .i64 s0.Op.C, .int .i64 s0.Op.D, .int .i64 s0.Index] ∧ Upd w wx [g] ∧ Cur B wx g ∧ Blk wx w.heap.size 32 #[.int .i64 0, .int .i64 0, .int .i64 0, .int .i64 0, .int .i64 0, .int .i64 0, .int .i64 0, .slice none 0 0, .bool false, .int .i64 0, .int .i64 0, .int .i64 0, .int .i64 0, .int .i64 0, .int .i64 0] ∧ OwnI w.heap.size 72 2 wx (.slice aq nq kq) (dues j.Open))
 case first =>
  cases c1v
  ·
   go_wp2_with fail
   go_meet
   case rel => exact ⟨s0.Id, bC, (by exact updT), (by exact curT), bC, (by exact ownR)⟩
  go_wp2_with fail
  go_meet
  case rel => exact ⟨j.Holder, bC, (by exact updT), (by exact curT), bC, (by exact ownR)⟩
 revert wc; intro w6 hcut
 obtain ⟨id1, KS6, E6, hc6, KR6, Oq6⟩ := hcut
 have hz6 := E6.size
 clear CR5 FR5 LR5 CS5 FS5 LS5
 obtain ⟨CR6, FR6, LR6⟩ := KR6.cfl
 obtain ⟨CS6, FS6, LS6⟩ := KS6.cfl
 go_upto_region 6 with (fail)
 go_cut [30] (fun cx0 wx => ∃ c2v : Bool, cx0 = .bool c2v ∧ Upd w wx [g] ∧ Cur B wx g ∧ Blk wx w.heap.size 32 #[.int .i64 0, .int .i64 0, .int .i64 0, .int .i64 0, .int .i64 0, .int .i64 0, .int .i64 0, .slice none 0 0, .bool false, .int .i64 0, .int .i64 0, .int .i64 0, .int .i64 0, .int .i64 0, .int .i64 0] ∧ Blk wx w2.heap.size 32 #[.int .i64 id1, .int .i64 y, .int .i64 j.Index, .int .i64 j.Time, .int .i64 j.Holder, .int .i64 j.Epoch, .int .i64 j.Until, .slice aq nq kq, .bool s0.Busy, .int .i64 s0.Op.Kind, .int .i64 s0.Op.A, .int .i64 s0.Op.B, .int .i64 s0.Op.C, .int .i64 s0.Op.D, .int .i64 s0.Index] ∧ OwnI w.heap.size 72 2 wx (.slice aq nq kq) (dues j.Open))
 case first =>
  go_wp2_with fail
  refine (l1Once_c (cU B) 2).mono ?_
  rintro e w7 ⟨_, rfl, X7, hc7, c2, rfl⟩
  have hz7 := X7.sz
  have E7 : Upd w w7 [g] := X7.up
  have KR7 : Blk w7 w.heap.size 32 #[.int .i64 0, .int .i64 0, .int .i64 0, .int .i64 0, .int .i64 0, .int .i64 0, .int .i64 0, .slice none 0 0, .bool false, .int .i64 0, .int .i64 0, .int .i64 0, .int .i64 0, .int .i64 0, .int .i64 0] := bU X7
  have KS7 : Blk w7 w2.heap.size 32 #[.int .i64 id1, .int .i64 y, .int .i64 j.Index, .int .i64 j.Time, .int .i64 j.Holder, .int .i64 j.Epoch, .int .i64 j.Until, .slice aq nq kq, .bool s0.Busy, .int .i64 s0.Op.Kind, .int .i64 s0.Op.A, .int .i64 s0.Op.B, .int .i64 s0.Op.C, .int .i64 s0.Op.D, .int .i64 s0.Index] := bU X7
  have Oq7 : OwnI w.heap.size 72 2 w7 (.slice aq nq kq) (dues j.Open) := OwnI.drawn (by exact ownR) X7 oM
  clear X7
  clear CR6 FR6 LR6 CS6 FS6 LS6
  obtain ⟨CR7, FR7, LR7⟩ := KR7.cfl
  obtain ⟨CS7, FS7, LS7⟩ := KS7.cfl
  go_wp2_with fail
  go_meet
  case rel => exact ⟨c2, (by first | rfl | trivial), (by exact updT), (by exact curT), bC, bC, (by exact ownR)⟩
 revert wc; intro w7 hcut
 obtain ⟨c2v, rfl, E7, hc7, KR7, KS7, Oq7⟩ := hcut
 have hz7 := E7.size
 clear CR6 FR6 LR6 CS6 FS6 LS6
 obtain ⟨CR7, FR7, LR7⟩ := KR7.cfl
 obtain ⟨CS7, FS7, LS7⟩ := KS7.cfl
 go_upto_if 30 with (fail)
 go_cut [] (fun wx => ∃ ix1 : Int, Blk wx w2.heap.size 32 #[.int .i64 id1, .int .i64 y, .int .i64 j.Index, .int .i64 j.Time, .int .i64 j.Holder, .int .i64 j.Epoch, .int .i64 j.Until, .slice aq nq kq, .bool s0.Busy, .int .i64 s0.Op.Kind, .int .i64 s0.Op.A, .int .i64 s0.Op.B, .int .i64 s0.Op.C, .int .i64 s0.Op.D, .int .i64 ix1] ∧ Upd w wx [g] ∧ Cur B wx g ∧ Blk wx w.heap.size 32 #[.int .i64 0, .int .i64 0, .int .i64 0, .int .i64 0, .int .i64 0, .int .i64 0, .int .i64 0, .slice none 0 0, .bool false, .int .i64 0, .int .i64 0, .int .i64 0, .int .i64 0, .int .i64 0, .int .i64 0] ∧ OwnI w.heap.size 72 2 wx (.slice aq nq kq) (dues j.Open))
 case first =>
  cases c2v
  ·
   go_wp2_with fail
   go_meet
   case rel => exact ⟨s0.Index, bC, (by exact updT), (by exact curT), bC, (by exact ownR)⟩
  go_wp2_with fail
  refine (l1Below_c (cU B) _).mono ?_
  rintro e w8 ⟨_, rfl, X8, hc8, x2, rfl, px2, qx2, rx2⟩
  have hz8 := X8.sz
  have E8 : Upd w w8 [g] := X8.up
  have KR8 : Blk w8 w.heap.size 32 #[.int .i64 0, .int .i64 0, .int .i64 0, .int .i64 0, .int .i64 0, .int .i64 0, .int .i64 0, .slice none 0 0, .bool false, .int .i64 0, .int .i64 0, .int .i64 0, .int .i64 0, .int .i64 0, .int .i64 0] := bU X8
  have KS8 : Blk w8 w2.heap.size 32 #[.int .i64 id1, .int .i64 y, .int .i64 j.Index, .int .i64 j.Time, .int .i64 j.Holder, .int .i64 j.Epoch, .int .i64 j.Until, .slice aq nq kq, .bool s0.Busy, .int .i64 s0.Op.Kind, .int .i64 s0.Op.A, .int .i64 s0.Op.B, .int .i64 s0.Op.C, .int .i64 s0.Op.D, .int .i64 s0.Index] := bU X8
  have Oq8 : OwnI w.heap.size 72 2 w8 (.slice aq nq kq) (dues j.Open) := OwnI.drawn (by exact ownR) X8 oM
  clear X8
  clear CR7 FR7 LR7 CS7 FS7 LS7
  obtain ⟨CR8, FR8, LR8⟩ := KR8.cfl
  obtain ⟨CS8, FS8, LS8⟩ := KS8.cfl
  go_wp2_with fail
  go_meet
  case rel => exact ⟨x2, bC, (by exact updT), (by exact curT), bC, (by exact ownR)⟩
 revert wc; intro w8 hcut
 obtain ⟨ix1, KS8, E8, hc8, KR8, Oq8⟩ := hcut
 have hz8 := E8.size
 clear CR7 FR7 LR7 CS7 FS7 LS7
 obtain ⟨CR8, FR8, LR8⟩ := KR8.cfl
 obtain ⟨CS8, FS8, LS8⟩ := KS8.cfl
 go_upto_region 8 with (fail)
 go_cut [40] (fun cx0 wx => ∃ c3v : Bool, cx0 = .bool c3v ∧ Upd w wx [g] ∧ Cur B wx g ∧ Blk wx w.heap.size 32 #[.int .i64 0, .int .i64 0, .int .i64 0, .int .i64 0, .int .i64 0, .int .i64 0, .int .i64 0, .slice none 0 0, .bool false, .int .i64 0, .int .i64 0, .int .i64 0, .int .i64 0, .int .i64 0, .int .i64 0] ∧ Blk wx w2.heap.size 32 #[.int .i64 id1, .int .i64 y, .int .i64 j.Index, .int .i64 j.Time, .int .i64 j.Holder, .int .i64 j.Epoch, .int .i64 j.Until, .slice aq nq kq, .bool s0.Busy, .int .i64 s0.Op.Kind, .int .i64 s0.Op.A, .int .i64 s0.Op.B, .int .i64 s0.Op.C, .int .i64 s0.Op.D, .int .i64 ix1] ∧ OwnI w.heap.size 72 2 wx (.slice aq nq kq) (dues j.Open))
 case first =>
  go_wp2_with fail
  refine (l1Once_c (cU B) 20).mono ?_
  rintro e w9 ⟨_, rfl, X9, hc9, c3, rfl⟩
  have hz9 := X9.sz
  have E9 : Upd w w9 [g] := X9.up
  have KR9 : Blk w9 w.heap.size 32 #[.int .i64 0, .int .i64 0, .int .i64 0, .int .i64 0, .int .i64 0, .int .i64 0, .int .i64 0, .slice none 0 0, .bool false, .int .i64 0, .int .i64 0, .int .i64 0, .int .i64 0, .int .i64 0, .int .i64 0] := bU X9
  have KS9 : Blk w9 w2.heap.size 32 #[.int .i64 id1, .int .i64 y, .int .i64 j.Index, .int .i64 j.Time, .int .i64 j.Holder, .int .i64 j.Epoch, .int .i64 j.Until, .slice aq nq kq, .bool s0.Busy, .int .i64 s0.Op.Kind, .int .i64 s0.Op.A, .int .i64 s0.Op.B, .int .i64 s0.Op.C, .int .i64 s0.Op.D, .int .i64 ix1] := bU X9
  have Oq9 : OwnI w.heap.size 72 2 w9 (.slice aq nq kq) (dues j.Open) := OwnI.drawn (by exact ownR) X9 oM
  clear X9
  clear CR8 FR8 LR8 CS8 FS8 LS8
  obtain ⟨CR9, FR9, LR9⟩ := KR9.cfl
  obtain ⟨CS9, FS9, LS9⟩ := KS9.cfl
  go_wp2_with fail
  go_meet
  case rel => exact ⟨c3, (by first | rfl | trivial), (by exact updT), (by exact curT), bC, bC, (by exact ownR)⟩
 revert wc; intro w9 hcut
 obtain ⟨c3v, rfl, E9, hc9, KR9, KS9, Oq9⟩ := hcut
 have hz9 := E9.size
 clear CR8 FR8 LR8 CS8 FS8 LS8
 obtain ⟨CR9, FR9, LR9⟩ := KR9.cfl
 obtain ⟨CS9, FS9, LS9⟩ := KS9.cfl
 go_upto_if 40 with (fail)
 go_cut [] (fun wx => ∃ sq1 : Int, Blk wx w2.heap.size 32 #[.int .i64 id1, .int .i64 sq1, .int .i64 j.Index, .int .i64 j.Time, .int .i64 j.Holder, .int .i64 j.Epoch, .int .i64 j.Until, .slice aq nq kq, .bool s0.Busy, .int .i64 s0.Op.Kind, .int .i64 s0.Op.A, .int .i64 s0.Op.B, .int .i64 s0.Op.C, .int .i64 s0.Op.D, .int .i64 ix1] ∧ Upd w wx [g] ∧ Cur B wx g ∧ Blk wx w.heap.size 32 #[.int .i64 0, .int .i64 0, .int .i64 0, .int .i64 0, .int .i64 0, .int .i64 0, .int .i64 0, .slice none 0 0, .bool false, .int .i64 0, .int .i64 0, .int .i64 0, .int .i64 0, .int .i64 0, .int .i64 0] ∧ OwnI w.heap.size 72 2 wx (.slice aq nq kq) (dues j.Open))
 case first =>
  cases c3v
  ·
   go_wp2_with fail
   go_meet
   case rel => exact ⟨y, bC, (by exact updT), (by exact curT), bC, (by exact ownR)⟩
  go_wp2_with fail
  refine (l1Below_c (cU B) 2).mono ?_
  rintro e w10 ⟨_, rfl, X10, hc10, x3, rfl, px3, qx3, rx3⟩
  have hz10 := X10.sz
  have E10 : Upd w w10 [g] := X10.up
  have KR10 : Blk w10 w.heap.size 32 #[.int .i64 0, .int .i64 0, .int .i64 0, .int .i64 0, .int .i64 0, .int .i64 0, .int .i64 0, .slice none 0 0, .bool false, .int .i64 0, .int .i64 0, .int .i64 0, .int .i64 0, .int .i64 0, .int .i64 0] := bU X10
  have KS10 : Blk w10 w2.heap.size 32 #[.int .i64 id1, .int .i64 y, .int .i64 j.Index, .int .i64 j.Time, .int .i64 j.Holder, .int .i64 j.Epoch, .int .i64 j.Until, .slice aq nq kq, .bool s0.Busy, .int .i64 s0.Op.Kind, .int .i64 s0.Op.A, .int .i64 s0.Op.B, .int .i64 s0.Op.C, .int .i64 s0.Op.D, .int .i64 ix1] := bU X10
  have Oq10 : OwnI w.heap.size 72 2 w10 (.slice aq nq kq) (dues j.Open) := OwnI.drawn (by exact ownR) X10 oM
  clear X10
  clear CR9 FR9 LR9 CS9 FS9 LS9
  obtain ⟨CR10, FR10, LR10⟩ := KR10.cfl
  obtain ⟨CS10, FS10, LS10⟩ := KS10.cfl
  have qx3 := qx3 dC; clear rx3
  have e3 : IntKind.i64.wrap (2000 - x3) = 2000 - x3 := by rw [IntKind.wrap_i64]; omega
  go_wp2_with fail
  go_meet
  case rel => exact ⟨(2000 - x3), bC, (by exact updT), (by exact curT), bC, (by exact ownR)⟩
 revert wc; intro w10 hcut
 obtain ⟨sq1, KS10, E10, hc10, KR10, Oq10⟩ := hcut
 have hz10 := E10.size
 clear CR9 FR9 LR9 CS9 FS9 LS9
 obtain ⟨CR10, FR10, LR10⟩ := KR10.cfl
 obtain ⟨CS10, FS10, LS10⟩ := KS10.cfl
 go_wp2_with fail
 refine (l1Once_c (cU B) 2).mono ?_
 rintro e w11 ⟨_, rfl, X11, hc11, b4, rfl⟩
 have hz11 := X11.sz
 have E11 : Upd w w11 [g] := X11.up
 have KR11 : Blk w11 w.heap.size 32 #[.int .i64 0, .int .i64 0, .int .i64 0, .int .i64 0, .int .i64 0, .int .i64 0, .int .i64 0, .slice none 0 0, .bool false, .int .i64 0, .int .i64 0, .int .i64 0, .int .i64 0, .int .i64 0, .int .i64 0] := bU X11
 have KS11 : Blk w11 w2.heap.size 32 #[.int .i64 id1, .int .i64 sq1, .int .i64 j.Index, .int .i64 j.Time, .int .i64 j.Holder, .int .i64 j.Epoch, .int .i64 j.Until, .slice aq nq kq, .bool s0.Busy, .int .i64 s0.Op.Kind, .int .i64 s0.Op.A, .int .i64 s0.Op.B, .int .i64 s0.Op.C, .int .i64 s0.Op.D, .int .i64 ix1] := bU X11
 have Oq11 : OwnI w.heap.size 72 2 w11 (.slice aq nq kq) (dues j.Open) := OwnI.drawn (by exact ownR) X11 oM
 clear X11
 clear CR10 FR10 LR10 CS10 FS10 LS10
 obtain ⟨CR11, FR11, LR11⟩ := KR11.cfl
 obtain ⟨CS11, FS11, LS11⟩ := KS11.cfl
 cases b4
 rotate_left
 ·
  go_upto_region 11 with (fail)
  go_cut [] (fun wx => ∃ s9 : DSched, ∃ av : Option Addr, ∃ nv : Nat, ∃ kv : Nat, Blk wx w2.heap.size 32 #[.int .i64 s9.Id, .int .i64 s9.Seq, .int .i64 s9.View.Jobs.Index, .int .i64 s9.View.Jobs.Time, .int .i64 s9.View.Jobs.Holder, .int .i64 s9.View.Jobs.Epoch, .int .i64 s9.View.Jobs.Until, .slice av nv kv, .bool s9.Busy, .int .i64 s9.Op.Kind, .int .i64 s9.Op.A, .int .i64 s9.Op.B, .int .i64 s9.Op.C, .int .i64 s9.Op.D, .int .i64 s9.Index] ∧ OwnI w.heap.size 72 2 wx (.slice av nv kv) (dues s9.View.Jobs.Open) ∧ Upd w wx [g] ∧ Cur B wx g ∧ Blk wx w.heap.size 32 #[.int .i64 0, .int .i64 0, .int .i64 0, .int .i64 0, .int .i64 0, .int .i64 0, .int .i64 0, .slice none 0 0, .bool false, .int .i64 0, .int .i64 0, .int .i64 0, .int .i64 0, .int .i64 0, .int .i64 0])
  case first =>
   go_wp2_with fail
   refine wh (S := fun w' => Upd w w' [g] ∧ Cur B w' g) fun hHeld => ?_
   refine wt 1 ?_
   (try simp only [redA, Act.put])
   refine wt 2 ?_
   (try simp only [redA, Act.put])
   refine wr2 0 3 (fun Kz hKz => ?_) fun Kz hKz => ?_
   ·
    (try simp only [redA])
    go_simp
    refine hKz.o2 fun hHeld => ?_
    clear hKz Kz
    (try simp only [redA, Act.put])
    refine wr1 3 fun Kz hKz => ?_
    (try simp only [redA])
    go_simp
    refine hKz.o2 fun hHeld => ?_
    clear hKz Kz
    (try simp only [redA, Act.put])
    refine wr1 4 fun Kz hKz => ?_
    (try simp only [redA])
    go_simp
    go_at_call 57
    refine (l20DrawNow_c (cU B) _ _ _ _ _ _ _ _).mono ?_
    rintro e w12 ⟨_, rfl, X12, hc12, nw, rfl⟩
    have hz12 := X12.sz
    have E12 : Upd w w12 [g] := X12.up
    have KR12 := KR11.upv X12
    have KS12 := KS11.upv X12
    have Oq12 : OwnI w.heap.size 72 2 w12 (.slice aq nq kq) (dues j.Open) := OwnI.drawn (by exact ownR) X12 oM
    clear X12
    clear CR11 FR11 LR11 CS11 FS11 LS11
    obtain ⟨CR12, FR12, LR12⟩ := KR12.cfl
    obtain ⟨CS12, FS12, LS12⟩ := KS12.cfl
    refine hKz.o2 fun hHeld => ?_
    clear hKz Kz
    (try simp only [redA, Act.put])
    refine wr1 5 fun Kz hKz => ?_
    (try simp only [redA])
    go_simp
    go_at_call 56
    refine (sDecided_k (s := ⟨id1, sq1, ⟨⟨j.Index, j.Time, j.Holder, j.Epoch, j.Until, j.Open⟩⟩, s0.Busy, ⟨s0.Op.Kind, s0.Op.A, s0.Op.B, s0.Op.C, s0.Op.D⟩, ix1⟩) ⟨_, rfl, OwnI.ints (show OwnI w.heap.size 72 2 _ (.slice aq nq kq) (dues j.Open) from (by exact ownR))⟩ _).mono ?_
    rintro e w13 ⟨_, rfl, hx13, FD, gd⟩
    have hz13 := hx13.size; (try simp only [szA] at hz13)
    have E13 : Upd w w13 [g] := Upd.ext (by exact updT) hx13
    have hc13 : Cur B w13 g := Cur.ext (by exact curT) hx13
    have KR13 := KR12.exv hx13
    have KS13 := KS12.exv hx13
    have Oq13 : OwnI w.heap.size 72 2 w13 (.slice aq nq kq) (dues j.Open) := OwnI.ext1 (by exact ownR) hx13
    clear hx13
    clear CR12 FR12 LR12 CS12 FS12 LS12
    obtain ⟨CR13, FR13, LR13⟩ := KR13.cfl
    obtain ⟨CS13, FS13, LS13⟩ := KS13.cfl
    generalize decided _ _ = s9 at gd
    obtain ⟨tq, rfl, HQ, -⟩ := gd
    clear Oq13
    obtain ⟨av, nv, kv, rfl⟩ := HQ.shape
    have Oq13 : OwnI w.heap.size 72 2 w13 (.slice av nv kv) (dues s9.View.Jobs.Open) := OwnI.mono HQ zT
    clear HQ
    refine hKz.o2 fun hHeld => ?_
    clear hKz Kz
    (try simp only [redA, Act.put])
    refine wr1 6 fun Kz hKz => ?_
    (try simp only [redA])
    first | (rw [if_pos (by rfl)]; refine wp_store_row 32 (.tmp 3) (.tmp 52) (by rfl) _ #[.int .i64 s9.Id, .int .i64 s9.Seq, .int .i64 s9.View.Jobs.Index, .int .i64 s9.View.Jobs.Time, .int .i64 s9.View.Jobs.Holder, .int .i64 s9.View.Jobs.Epoch, .int .i64 s9.View.Jobs.Until, .slice av nv kv, .bool s9.Busy, .int .i64 s9.Op.Kind, .int .i64 s9.Op.A, .int .i64 s9.Op.B, .int .i64 s9.Op.C, .int .i64 s9.Op.D, .int .i64 s9.Index] (by rfl) (by rfl) 32 _ KS13 (by kernel_rfl) rfl (by kernel_rfl) ?_) | go_simp
    refine hKz.o2 fun hHeld => ?_
    clear hKz Kz
    (try simp only [redA, Act.put])
    refine wpAnyH_done (by kernel_rfl) ?_ _
    go_wp2_with fail
    go_meet
    case rel => exact ⟨s9, av, nv, kv, bC, (by exact ownR), (by exact updT), (by exact curT), bC⟩
   (try simp only [redA])
   go_simp
   refine hKz.o2 fun hHeld => ?_
   clear hKz Kz
   (try simp only [redA, Act.put])
   refine wr2 0 4 (fun Kz hKz => ?_) fun Kz hKz => ?_
   ·
    (try simp only [redA])
    go_simp
    refine hKz.o2 fun hHeld => ?_
    clear hKz Kz
    (try simp only [redA, Act.put])
    refine wr1 4 fun Kz hKz => ?_
    (try simp only [redA])
    go_simp
    go_at_call 57
    refine (l20DrawNow_c (cU B) _ _ _ _ _ _ _ _).mono ?_
    rintro e w12 ⟨_, rfl, X12, hc12, nw, rfl⟩
    have hz12 := X12.sz
    have E12 : Upd w w12 [g] := X12.up
    have KR12 := KR11.upv X12
    have KS12 := KS11.upv X12
    have Oq12 : OwnI w.heap.size 72 2 w12 (.slice aq nq kq) (dues j.Open) := OwnI.drawn (by exact ownR) X12 oM
    clear X12
    clear CR11 FR11 LR11 CS11 FS11 LS11
    obtain ⟨CR12, FR12, LR12⟩ := KR12.cfl
    obtain ⟨CS12, FS12, LS12⟩ := KS12.cfl
    refine hKz.o2 fun hHeld => ?_
    clear hKz Kz
    (try simp only [redA, Act.put])
    refine wr1 5 fun Kz hKz => ?_
    (try simp only [redA])
    go_simp
    go_at_call 56
    refine (sDecided_k (s := ⟨id1, sq1, ⟨⟨j.Index, j.Time, j.Holder, j.Epoch, j.Until, j.Open⟩⟩, s0.Busy, ⟨s0.Op.Kind, s0.Op.A, s0.Op.B, s0.Op.C, s0.Op.D⟩, ix1⟩) ⟨_, rfl, OwnI.ints (show OwnI w.heap.size 72 2 _ (.slice aq nq kq) (dues j.Open) from (by exact ownR))⟩ _).mono ?_
    rintro e w13 ⟨_, rfl, hx13, FD, gd⟩
    have hz13 := hx13.size; (try simp only [szA] at hz13)
    have E13 : Upd w w13 [g] := Upd.ext (by exact updT) hx13
    have hc13 : Cur B w13 g := Cur.ext (by exact curT) hx13
    have KR13 := KR12.exv hx13
    have KS13 := KS12.exv hx13
    have Oq13 : OwnI w.heap.size 72 2 w13 (.slice aq nq kq) (dues j.Open) := OwnI.ext1 (by exact ownR) hx13
    clear hx13
    clear CR12 FR12 LR12 CS12 FS12 LS12
    obtain ⟨CR13, FR13, LR13⟩ := KR13.cfl
    obtain ⟨CS13, FS13, LS13⟩ := KS13.cfl
    generalize decided _ _ = s9 at gd
    obtain ⟨tq, rfl, HQ, -⟩ := gd
    clear Oq13
    obtain ⟨av, nv, kv, rfl⟩ := HQ.shape
    have Oq13 : OwnI w.heap.size 72 2 w13 (.slice av nv kv) (dues s9.View.Jobs.Open) := OwnI.mono HQ zT
    clear HQ
    refine hKz.o2 fun hHeld => ?_
    clear hKz Kz
    (try simp only [redA, Act.put])
    refine wr1 6 fun Kz hKz => ?_
    (try simp only [redA])
    first | (rw [if_pos (by rfl)]; refine wp_store_row 32 (.tmp 3) (.tmp 52) (by rfl) _ #[.int .i64 s9.Id, .int .i64 s9.Seq, .int .i64 s9.View.Jobs.Index, .int .i64 s9.View.Jobs.Time, .int .i64 s9.View.Jobs.Holder, .int .i64 s9.View.Jobs.Epoch, .int .i64 s9.View.Jobs.Until, .slice av nv kv, .bool s9.Busy, .int .i64 s9.Op.Kind, .int .i64 s9.Op.A, .int .i64 s9.Op.B, .int .i64 s9.Op.C, .int .i64 s9.Op.D, .int .i64 s9.Index] (by rfl) (by rfl) 32 _ KS13 (by kernel_rfl) rfl (by kernel_rfl) ?_) | go_simp
    refine hKz.o2 fun hHeld => ?_
    clear hKz Kz
    (try simp only [redA, Act.put])
    refine wpAnyH_done (by kernel_rfl) ?_ _
    go_wp2_with fail
    go_meet
    case rel => exact ⟨s9, av, nv, kv, bC, (by exact ownR), (by exact updT), (by exact curT), bC⟩
   (try simp only [redA])
   go_simp
   go_at_call 57
   refine (l20DrawNow_c (cU B) _ _ _ _ _ _ _ _).mono ?_
   rintro e w12 ⟨_, rfl, X12, hc12, nw, rfl⟩
   have hz12 := X12.sz
   have E12 : Upd w w12 [g] := X12.up
   have KR12 := KR11.upv X12
   have KS12 := KS11.upv X12
   have Oq12 : OwnI w.heap.size 72 2 w12 (.slice aq nq kq) (dues j.Open) := OwnI.drawn (by exact ownR) X12 oM
   clear X12
   clear CR11 FR11 LR11 CS11 FS11 LS11
   obtain ⟨CR12, FR12, LR12⟩ := KR12.cfl
   obtain ⟨CS12, FS12, LS12⟩ := KS12.cfl
   refine hKz.o2 fun hHeld => ?_
   clear hKz Kz
   (try simp only [redA, Act.put])
   refine wr1 0 fun Kz hKz => ?_
   (try simp only [redA])
   go_simp
   refine hKz.o2 fun hHeld => ?_
   clear hKz Kz
   (try simp only [redA, Act.put])
   refine wr1 5 fun Kz hKz => ?_
   (try simp only [redA])
   go_simp
   go_at_call 56
   refine (sDecided_k (s := ⟨id1, sq1, ⟨⟨j.Index, j.Time, j.Holder, j.Epoch, j.Until, j.Open⟩⟩, s0.Busy, ⟨s0.Op.Kind, s0.Op.A, s0.Op.B, s0.Op.C, s0.Op.D⟩, ix1⟩) ⟨_, rfl, OwnI.ints (show OwnI w.heap.size 72 2 _ (.slice aq nq kq) (dues j.Open) from (by exact ownR))⟩ _).mono ?_
   rintro e w13 ⟨_, rfl, hx13, FD, gd⟩
   have hz13 := hx13.size; (try simp only [szA] at hz13)
   have E13 : Upd w w13 [g] := Upd.ext (by exact updT) hx13
   have hc13 : Cur B w13 g := Cur.ext (by exact curT) hx13
   have KR13 := KR12.exv hx13
   have KS13 := KS12.exv hx13
   have Oq13 : OwnI w.heap.size 72 2 w13 (.slice aq nq kq) (dues j.Open) := OwnI.ext1 (by exact ownR) hx13
   clear hx13
   clear CR12 FR12 LR12 CS12 FS12 LS12
   obtain ⟨CR13, FR13, LR13⟩ := KR13.cfl
   obtain ⟨CS13, FS13, LS13⟩ := KS13.cfl
   generalize decided _ _ = s9 at gd
   obtain ⟨tq, rfl, HQ, -⟩ := gd
   clear Oq13
   obtain ⟨av, nv, kv, rfl⟩ := HQ.shape
   have Oq13 : OwnI w.heap.size 72 2 w13 (.slice av nv kv) (dues s9.View.Jobs.Open) := OwnI.mono HQ zT
   clear HQ
   refine hKz.o2 fun hHeld => ?_
   clear hKz Kz
   (try simp only [redA, Act.put])
   refine wr1 6 fun Kz hKz => ?_
   (try simp only [redA])
   first | (rw [if_pos (by rfl)]; refine wp_store_row 32 (.tmp 3) (.tmp 52) (by rfl) _ #[.int .i64 s9.Id, .int .i64 s9.Seq, .int .i64 s9.View.Jobs.Index, .int .i64 s9.View.Jobs.Time, .int .i64 s9.View.Jobs.Holder, .int .i64 s9.View.Jobs.Epoch, .int .i64 s9.View.Jobs.Until, .slice av nv kv, .bool s9.Busy, .int .i64 s9.Op.Kind, .int .i64 s9.Op.A, .int .i64 s9.Op.B, .int .i64 s9.Op.C, .int .i64 s9.Op.D, .int .i64 s9.Index] (by rfl) (by rfl) 32 _ KS13 (by kernel_rfl) rfl (by kernel_rfl) ?_) | go_simp
   refine hKz.o2 fun hHeld => ?_
   clear hKz Kz
   (try simp only [redA, Act.put])
   refine wpAnyH_done (by kernel_rfl) ?_ _
   go_wp2_with fail
   go_meet
   case rel => exact ⟨s9, av, nv, kv, bC, (by exact ownR), (by exact updT), (by exact curT), bC⟩
  revert wc; intro w12 hcut
  obtain ⟨s9, av, nv, kv, KS12, Oq12, E12, hc12, KR12⟩ := hcut
  have hz12 := E12.size
  clear CR11 FR11 LR11 CS11 FS11 LS11
  obtain ⟨CR12, FR12, LR12⟩ := KR12.cfl
  obtain ⟨CS12, FS12, LS12⟩ := KS12.cfl
  go_wp2_with (refine wpList_store_box rfl 32 (.tmp 2) (.tmp 53) rfl rfl rfl _ (show Blk _ _ 32 #[.int .i64 0, .int .i64 0, .int .i64 0, .int .i64 0, .int .i64 0, .int .i64 0, .int .i64 0, .slice none 0 0, .bool false, .int .i64 0, .int .i64 0, .int .i64 0, .int .i64 0, .int .i64 0, .int .i64 0] from by exact blkT) (by kernel_rfl) rfl (by kernel_rfl) ?_; intro KF)
  generalize hwz : World.setRow _ _ _ = wz at KF ⊢
  have CKF := KF.cell; have FKF := KF.frozen; have LKF := KF.lt
  refine bodyPost_ret (by simp [results, Tryz.results32, go_sem, CKF, FKF, LKF]; try rfl) rfl ?_
  exact ⟨_, rfl, by rw [← hwz]; exact updT, by rw [← hwz]; exact curT, s9, _, rfl, by rw [← hwz]; exact OwnI.mono (show OwnI w.heap.size 72 2 _ (.slice av nv kv) (dues s9.View.Jobs.Open) from by exact ownR) oM⟩
 go_wp2_with (refine wpList_store_box rfl 32 (.tmp 2) (.tmp 53) rfl rfl rfl _ (show Blk _ _ 32 #[.int .i64 0, .int .i64 0, .int .i64 0, .int .i64 0, .int .i64 0, .int .i64 0, .int .i64 0, .slice none 0 0, .bool false, .int .i64 0, .int .i64 0, .int .i64 0, .int .i64 0, .int .i64 0, .int .i64 0] from by exact blkT) (by kernel_rfl) rfl (by kernel_rfl) ?_; intro KF)
 generalize hwz : World.setRow _ _ _ = wz at KF ⊢
 have CKF := KF.cell; have FKF := KF.frozen; have LKF := KF.lt
 refine bodyPost_ret (by simp [results, Tryz.results32, go_sem, CKF, FKF, LKF]; try rfl) rfl ?_
 exact ⟨_, rfl, by rw [← hwz]; exact updT, by rw [← hwz]; exact curT, ⟨id1, sq1, ⟨⟨j.Index, j.Time, j.Holder, j.Epoch, j.Until, j.Open⟩⟩, s0.Busy, ⟨s0.Op.Kind, s0.Op.A, s0.Op.B, s0.Op.C, s0.Op.D⟩, ix1⟩, _, rfl, by rw [← hwz]; exact OwnI.mono (show OwnI w.heap.size 72 2 _ (.slice aq nq kq) (dues j.Open) from by exact ownR) oM⟩
end Go.Proofs.YtfhaooaajpopmaaGreat
