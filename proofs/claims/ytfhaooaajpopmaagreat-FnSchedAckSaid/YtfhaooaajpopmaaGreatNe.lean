/- Contracts and plain laws: DGA. -/
import Derived.Test.YtfhaooaajpopmaaGreatMa
import Derived.Deep.DeepCutAuto
import Derived.Deep.CutBlock
import Derived.Test.YtfhaooaajpopmaaGreatOg
set_option linter.unusedSimpArgs false
set_option linter.unusedVariables false
set_option maxHeartbeats 400000000
set_option maxRecDepth 100000
namespace Go.Proofs.YtfhaooaajpopmaaGreat
open Go.RowKit Go.G8
theorem drawAckHeard_c {wo : World} {v : Value} (h : Bytes wo v) : Calls Tryz.prog 5 #[v] wo (Ret wo fun r w' => ∃ (s : DSched) (x : Value) (a0 a1 a2 a3 : Int), r = .tuple #[x, .agg #[.int .i64 a0, .int .i64 a1, .int .i64 a2, .int .i64 a3]] ∧ RdSched w' x s) := by
 go_enter Tryz.func5, Tryz.ntmps5
 go_wp2_with fail
 refine (l1New_c (h.ext (by exact extT))).mono ?_
 rintro e w ⟨_, rfl, hx0, g, rfl, hc0⟩
 have KR0 : Blk w wo.heap.size 32 #[.int .i64 0, .int .i64 0, .int .i64 0, .int .i64 0, .int .i64 0, .int .i64 0, .int .i64 0, .slice none 0 0, .bool false, .int .i64 0, .int .i64 0, .int .i64 0, .int .i64 0, .int .i64 0, .int .i64 0] := Blk.ext (by exact blkT) hx0
 have KQ0 : Blk w (wo.heap.size + 1) 34 #[.int .i64 0, .int .i64 0, .int .i64 0, .int .i64 0] := Blk.ext (by exact blkT) hx0
 have X0 : Ext wo w := Ext.trans (by exact extT) hx0
 have hz0 := hx0.size; (try simp only [World.size_alloc] at hz0)
 simp only [World.size_alloc] at hc0
 have hg0 := hc0.lt
 clear hx0
 obtain ⟨B, hB⟩ : ∃ B, B = wo.heap.size + 1 + 1 := ⟨_, rfl⟩
 rw [← hB] at hc0
 have E0 : Upd w w [g] := Upd.refl _ _
 have hgM : g < w.heap.size := by omega
 go_wp2_with fail
 refine (l21DrawAny_c (cU B)).mono ?_
 rintro e w1 ⟨_, rfl, X1, hc1, s, HS⟩
 have hz1 := X1.sz
 have E1 : Upd w w1 [g] := X1.up
 have KR1 : Blk w1 wo.heap.size 32 #[.int .i64 0, .int .i64 0, .int .i64 0, .int .i64 0, .int .i64 0, .int .i64 0, .int .i64 0, .slice none 0 0, .bool false, .int .i64 0, .int .i64 0, .int .i64 0, .int .i64 0, .int .i64 0, .int .i64 0] := bU X1
 have KQ1 : Blk w1 (wo.heap.size + 1) 34 #[.int .i64 0, .int .i64 0, .int .i64 0, .int .i64 0] := bU X1
 clear X1
 obtain ⟨CR1, FR1, LR1⟩ := KR1.cfl
 obtain ⟨CQ1, FQ1, LQ1⟩ := KQ1.cfl
 obtain ⟨bz, hbz⟩ : ∃ b, b = s.Busy := ⟨_, rfl⟩
 obtain ⟨tq, rfl, HQ⟩ := HS
 rw [← hbz]
 have HBZ := Lib.hid hbz; clear hbz
 obtain ⟨aq, nq, kq, rfl⟩ := HQ.shape
 have Oq1 : OwnI w.heap.size 72 2 w1 (.slice aq nq kq) (dues s.View.Jobs.Open) := OwnI.mono HQ zT
 clear HQ
 go_wp2_with fail
 go_cut [6] (fun cx0 wx => ∃ gg : Nat, ∃ x : Int, cx0 = .pointer (some ⟨gg, 0, none⟩) ∧ w1.heap.size + 1 ≤ gg ∧ Blk wx gg 34 #[.int .i64 s.Id, .int .i64 s.Seq, .int .i64 x, .int .i64 s.Seq] ∧ Upd w wx [g] ∧ Cur B wx g ∧ Blk wx wo.heap.size 32 #[.int .i64 0, .int .i64 0, .int .i64 0, .int .i64 0, .int .i64 0, .int .i64 0, .int .i64 0, .slice none 0 0, .bool false, .int .i64 0, .int .i64 0, .int .i64 0, .int .i64 0, .int .i64 0, .int .i64 0] ∧ Blk wx (wo.heap.size + 1) 34 #[.int .i64 0, .int .i64 0, .int .i64 0, .int .i64 0] ∧ Blk wx w1.heap.size 32 #[.int .i64 s.Id, .int .i64 s.Seq, .int .i64 s.View.Jobs.Index, .int .i64 s.View.Jobs.Time, .int .i64 s.View.Jobs.Holder, .int .i64 s.View.Jobs.Epoch, .int .i64 s.View.Jobs.Until, .slice aq nq kq, .bool bz, .int .i64 s.Op.Kind, .int .i64 s.Op.A, .int .i64 s.Op.B, .int .i64 s.Op.C, .int .i64 s.Op.D, .int .i64 s.Index] ∧ OwnI w.heap.size 72 2 wx (.slice aq nq kq) (dues s.View.Jobs.Open))
 case first =>
  refine wp_region_held_drew (S := fun w' => Upd w w' [g] ∧ Cur B w' g ∧ Blk w' w1.heap.size 32 #[.int .i64 s.Id, .int .i64 s.Seq, .int .i64 s.View.Jobs.Index, .int .i64 s.View.Jobs.Time, .int .i64 s.View.Jobs.Holder, .int .i64 s.View.Jobs.Epoch, .int .i64 s.View.Jobs.Until, .slice aq nq kq, .bool bz, .int .i64 s.Op.Kind, .int .i64 s.Op.A, .int .i64 s.Op.B, .int .i64 s.Op.C, .int .i64 s.Op.D, .int .i64 s.Index]) (by kernel_rfl) (by (try dsimp only); exact ⟨(by exact updT), (by exact curT), bC⟩) (fun hHeld => ?_)
  refine wt 0 ?_
  (try simp only [redA, Act.put])
  refine wtq 1 (fun _ h => h.2.2.cell) ?_
  (try simp only [redA, Act.put])
  refine wt 2 ?_
  (try simp only [redA, Act.put])
  refine wtq 3 (fun _ h => h.2.2.cell) ?_
  (try simp only [redA, Act.put])
  refine wt 4 ?_
  (try simp only [redA, Act.put])
  refine wt 6 ?_
  (try simp only [redA, Act.put])
  refine wtq 7 (fun _ h => h.2.2.cell) ?_
  (try simp only [redA, Act.put])
  refine wr2 5 9 (fun Kz hKz => ?_) fun Kz hKz => ?_
  ·
   (try simp only [redA])
   go_simp
   go_at_call 14
   refine (l1Below_c (cU B) 30).mono ?_
   rintro e w2 ⟨_, rfl, X2, hc2, x, rfl, px, qx, rx⟩
   have hz2 := X2.sz
   have E2 : Upd w w2 [g] := X2.up
   have KR2 := KR1.upv X2
   have KQ2 := KQ1.upv X2
   have KD2 : Blk w2 w1.heap.size 32 #[.int .i64 s.Id, .int .i64 s.Seq, .int .i64 s.View.Jobs.Index, .int .i64 s.View.Jobs.Time, .int .i64 s.View.Jobs.Holder, .int .i64 s.View.Jobs.Epoch, .int .i64 s.View.Jobs.Until, .slice aq nq kq, .bool bz, .int .i64 s.Op.Kind, .int .i64 s.Op.A, .int .i64 s.Op.B, .int .i64 s.Op.C, .int .i64 s.Op.D, .int .i64 s.Index] := bU X2
   have Oq2 : OwnI w.heap.size 72 2 w2 (.slice aq nq kq) (dues s.View.Jobs.Open) := OwnI.drawn (by exact ownR) X2 oM
   clear X2
   clear CR1 FR1 LR1 CQ1 FQ1 LQ1
   obtain ⟨CR2, FR2, LR2⟩ := KR2.cfl
   obtain ⟨CQ2, FQ2, LQ2⟩ := KQ2.cfl
   obtain ⟨CD2, FD2, LD2⟩ := KD2.cfl
   refine hKz.o3 fun hHeld => ?_
   clear hKz Kz
   (try simp only [redA, Act.put])
   refine wt 8 ?_
   (try simp only [redA, Act.put])
   refine wr1 9 fun Kz hKz => ?_
   (try simp only [redA])
   go_simp
   refine hKz.o3 fun hHeld => ?_
   clear hKz Kz
   (try simp only [redA, Act.put])
   refine wr1 10 fun Kz hKz => ?_
   (try simp only [redA])
   go_simp
   refine hKz.o3 fun hHeld => ?_
   clear hKz Kz
   (try simp only [redA, Act.put])
   refine wpAnyH_done (by kernel_rfl) ?_ _
   go_wp2_with fail
   go_meet
   case rel => exact ⟨_, x, (by first | rfl | trivial), (by first | omega | (simp only [World.size_alloc, size_drew]; omega)), bC, (by exact updT), (by exact curT), bC, bC, bC, (by exact ownR)⟩
  (try simp only [redA])
  go_simp
  refine hKz.o3 fun hHeld => ?_
  clear hKz Kz
  (try simp only [redA, Act.put])
  refine wr1 5 fun Kz hKz => ?_
  (try simp only [redA])
  go_simp
  go_at_call 14
  refine (l1Below_c (cU B) 30).mono ?_
  rintro e w2 ⟨_, rfl, X2, hc2, x, rfl, px, qx, rx⟩
  have hz2 := X2.sz
  have E2 : Upd w w2 [g] := X2.up
  have KR2 := KR1.upv X2
  have KQ2 := KQ1.upv X2
  have KD2 : Blk w2 w1.heap.size 32 #[.int .i64 s.Id, .int .i64 s.Seq, .int .i64 s.View.Jobs.Index, .int .i64 s.View.Jobs.Time, .int .i64 s.View.Jobs.Holder, .int .i64 s.View.Jobs.Epoch, .int .i64 s.View.Jobs.Until, .slice aq nq kq, .bool bz, .int .i64 s.Op.Kind, .int .i64 s.Op.A, .int .i64 s.Op.B, .int .i64 s.Op.C, .int .i64 s.Op.D, .int .i64 s.Index] := bU X2
  have KA2 : Blk w2 (w1.heap.size + 1) 34 #[.int .i64 0, .int .i64 0, .int .i64 0, .int .i64 0] := bU X2
  have Oq2 : OwnI w.heap.size 72 2 w2 (.slice aq nq kq) (dues s.View.Jobs.Open) := OwnI.drawn (by exact ownR) X2 oM
  clear X2
  clear CR1 FR1 LR1 CQ1 FQ1 LQ1
  obtain ⟨CR2, FR2, LR2⟩ := KR2.cfl
  obtain ⟨CQ2, FQ2, LQ2⟩ := KQ2.cfl
  obtain ⟨CD2, FD2, LD2⟩ := KD2.cfl
  obtain ⟨CA2, FA2, LA2⟩ := KA2.cfl
  refine hKz.o3 fun hHeld => ?_
  clear hKz Kz
  (try simp only [redA, Act.put])
  refine wt 8 ?_
  (try simp only [redA, Act.put])
  refine wr1 10 fun Kz hKz => ?_
  (try simp only [redA])
  go_simp
  refine hKz.o3 fun hHeld => ?_
  clear hKz Kz
  (try simp only [redA, Act.put])
  refine wpAnyH_done (by kernel_rfl) ?_ _
  go_wp2_with fail
  go_meet
  case rel => exact ⟨_, x, (by first | rfl | trivial), (by first | omega | (simp only [World.size_alloc, size_drew]; omega)), bC, (by exact updT), (by exact curT), bC, bC, bC, (by exact ownR)⟩
 revert wc; intro w2 hcut
 obtain ⟨gg, x, rfl, hgg, KA2, E2, hc2, KR2, KQ2, KD2, Oq2⟩ := hcut
 have hz2 := E2.size
 clear CR1 FR1 LR1 CQ1 FQ1 LQ1
 obtain ⟨CR2, FR2, LR2⟩ := KR2.cfl
 obtain ⟨CQ2, FQ2, LQ2⟩ := KQ2.cfl
 obtain ⟨CD2, FD2, LD2⟩ := KD2.cfl
 obtain ⟨CA2, FA2, LA2⟩ := KA2.cfl
 go_wp2_with fail
 refine (l1Below_c (cU B) 6).mono ?_
 rintro e w3 ⟨_, rfl, X3, hc3, m, rfl, pm, qm, rm⟩
 have hz3 := X3.sz
 have E3 : Upd w w3 [g] := X3.up
 have KR3 : Blk w3 wo.heap.size 32 #[.int .i64 0, .int .i64 0, .int .i64 0, .int .i64 0, .int .i64 0, .int .i64 0, .int .i64 0, .slice none 0 0, .bool false, .int .i64 0, .int .i64 0, .int .i64 0, .int .i64 0, .int .i64 0, .int .i64 0] := bU X3
 have KQ3 : Blk w3 (wo.heap.size + 1) 34 #[.int .i64 0, .int .i64 0, .int .i64 0, .int .i64 0] := bU X3
 have KD3 : Blk w3 w1.heap.size 32 #[.int .i64 s.Id, .int .i64 s.Seq, .int .i64 s.View.Jobs.Index, .int .i64 s.View.Jobs.Time, .int .i64 s.View.Jobs.Holder, .int .i64 s.View.Jobs.Epoch, .int .i64 s.View.Jobs.Until, .slice aq nq kq, .bool bz, .int .i64 s.Op.Kind, .int .i64 s.Op.A, .int .i64 s.Op.B, .int .i64 s.Op.C, .int .i64 s.Op.D, .int .i64 s.Index] := bU X3
 have KA3 : Blk w3 gg 34 #[.int .i64 s.Id, .int .i64 s.Seq, .int .i64 x, .int .i64 s.Seq] := bU X3
 have Oq3 : OwnI w.heap.size 72 2 w3 (.slice aq nq kq) (dues s.View.Jobs.Open) := OwnI.drawn (by exact ownR) X3 oM
 clear X3
 clear CR2 FR2 LR2 CQ2 FQ2 LQ2 CD2 FD2 LD2 CA2 FA2 LA2
 obtain ⟨CR3, FR3, LR3⟩ := KR3.cfl
 obtain ⟨CQ3, FQ3, LQ3⟩ := KQ3.cfl
 obtain ⟨CD3, FD3, LD3⟩ := KD3.cfl
 obtain ⟨CA3, FA3, LA3⟩ := KA3.cfl
 have qm := qm dC; clear rm
 go_upto_block 0 with (fail)
 go_cut [] (fun wx => ∃ a0 : Int, ∃ a1 : Int, ∃ a2 : Int, ∃ a3 : Int, Blk wx gg 34 #[.int .i64 a0, .int .i64 a1, .int .i64 a2, .int .i64 a3] ∧ Upd w wx [g] ∧ Cur B wx g ∧ Blk wx wo.heap.size 32 #[.int .i64 0, .int .i64 0, .int .i64 0, .int .i64 0, .int .i64 0, .int .i64 0, .int .i64 0, .slice none 0 0, .bool false, .int .i64 0, .int .i64 0, .int .i64 0, .int .i64 0, .int .i64 0, .int .i64 0] ∧ Blk wx (wo.heap.size + 1) 34 #[.int .i64 0, .int .i64 0, .int .i64 0, .int .i64 0] ∧ Blk wx w1.heap.size 32 #[.int .i64 s.Id, .int .i64 s.Seq, .int .i64 s.View.Jobs.Index, .int .i64 s.View.Jobs.Time, .int .i64 s.View.Jobs.Holder, .int .i64 s.View.Jobs.Epoch, .int .i64 s.View.Jobs.Until, .slice aq nq kq, .bool bz, .int .i64 s.Op.Kind, .int .i64 s.Op.A, .int .i64 s.Op.B, .int .i64 s.Op.C, .int .i64 s.Op.D, .int .i64 s.Index] ∧ OwnI w.heap.size 72 2 wx (.slice aq nq kq) (dues s.View.Jobs.Open))
 case first =>
  obtain hway | hway | hway | hway | hway | hway : (m = 0) ∨ (m = 1) ∨ (m = 2) ∨ (m = 3) ∨ (m = 4) ∨ m ≥ 5 := by omega
  ·
   obtain rfl := hway
   go_wp2_with fail
   refine (l1Num_c (cU B) 6 oM oM).mono ?_
   rintro e w4 ⟨_, rfl, X4, hc4, u, rfl⟩
   have hz4 := X4.sz
   have E4 : Upd w w4 [g] := X4.up
   have KR4 := KR3.upv X4
   have KQ4 := KQ3.upv X4
   have KD4 := KD3.upv X4
   have KA4 := KA3.upv X4
   have Oq4 : OwnI w.heap.size 72 2 w4 (.slice aq nq kq) (dues s.View.Jobs.Open) := OwnI.drawn (by exact ownR) X4 oM
   clear X4
   clear CR3 FR3 LR3 CQ3 FQ3 LQ3 CD3 FD3 LD3 CA3 FA3 LA3
   obtain ⟨CR4, FR4, LR4⟩ := KR4.cfl
   obtain ⟨CQ4, FQ4, LQ4⟩ := KQ4.cfl
   obtain ⟨CD4, FD4, LD4⟩ := KD4.cfl
   obtain ⟨CA4, FA4, LA4⟩ := KA4.cfl
   go_wp2_with fail
   go_meet
   case rel => exact ⟨u, s.Seq, x, s.Seq, bC, (by exact updT), (by exact curT), bC, bC, bC, (by exact ownR)⟩
  ·
   obtain rfl := hway
   go_wp2_with fail
   refine wp_region_held_drew (S := fun w' => Upd w w' [g] ∧ Cur B w' g ∧ Blk w' w1.heap.size 32 #[.int .i64 s.Id, .int .i64 s.Seq, .int .i64 s.View.Jobs.Index, .int .i64 s.View.Jobs.Time, .int .i64 s.View.Jobs.Holder, .int .i64 s.View.Jobs.Epoch, .int .i64 s.View.Jobs.Until, .slice aq nq kq, .bool bz, .int .i64 s.Op.Kind, .int .i64 s.Op.A, .int .i64 s.Op.B, .int .i64 s.Op.C, .int .i64 s.Op.D, .int .i64 s.Index]) (by kernel_rfl) (by (try dsimp only); exact ⟨(by exact updT), (by exact curT), bC⟩) (fun hHeld => ?_)
   refine wt 0 ?_
   (try simp only [redA, Act.put])
   refine wtq 1 (fun _ h => h.2.2.cell) ?_
   (try simp only [redA, Act.put])
   refine wt 2 ?_
   (try simp only [redA, Act.put])
   refine wr1 3 fun Kz hKz => ?_
   (try simp only [redA])
   go_simp
   go_at_call 16
   refine (l1From_c (cU B) (-1) 1 oM oM oM).mono ?_
   rintro e w4 ⟨_, rfl, X4, hc4, u, rfl, pu, qu⟩
   have hz4 := X4.sz
   have E4 : Upd w w4 [g] := X4.up
   have KR4 := KR3.upv X4
   have KQ4 := KQ3.upv X4
   have KD4 := KD3.upv X4
   have KA4 := KA3.upv X4
   have Oq4 : OwnI w.heap.size 72 2 w4 (.slice aq nq kq) (dues s.View.Jobs.Open) := OwnI.drawn (by exact ownR) X4 oM
   clear X4
   clear CR3 FR3 LR3 CQ3 FQ3 LQ3 CD3 FD3 LD3 CA3 FA3 LA3
   obtain ⟨CR4, FR4, LR4⟩ := KR4.cfl
   obtain ⟨CQ4, FQ4, LQ4⟩ := KQ4.cfl
   obtain ⟨CD4, FD4, LD4⟩ := KD4.cfl
   obtain ⟨CA4, FA4, LA4⟩ := KA4.cfl
   refine hKz.o3 fun hHeld => ?_
   clear hKz Kz
   (try simp only [redA, Act.put])
   refine wt 4 ?_
   (try simp only [redA, Act.put])
   refine wt 5 ?_
   (try simp only [redA, Act.put])
   refine wr1 6 fun Kz hKz => ?_
   (try simp only [redA])
   go_simp
   refine hKz.o3 fun hHeld => ?_
   clear hKz Kz
   (try simp only [redA, Act.put])
   refine wpAnyH_done (by kernel_rfl) ?_ _
   go_wp2_with fail
   go_meet
   case rel => exact ⟨s.Id, (IntKind.i64.wrap (s.Seq + u)), x, s.Seq, bC, (by exact updT), (by exact curT), bC, bC, bC, (by exact ownR)⟩
  ·
   obtain rfl := hway
   go_wp2_with fail
   refine wp_region_held_drew (S := fun w' => Upd w w' [g] ∧ Cur B w' g ∧ Blk w' w1.heap.size 32 #[.int .i64 s.Id, .int .i64 s.Seq, .int .i64 s.View.Jobs.Index, .int .i64 s.View.Jobs.Time, .int .i64 s.View.Jobs.Holder, .int .i64 s.View.Jobs.Epoch, .int .i64 s.View.Jobs.Until, .slice aq nq kq, .bool bz, .int .i64 s.Op.Kind, .int .i64 s.Op.A, .int .i64 s.Op.B, .int .i64 s.Op.C, .int .i64 s.Op.D, .int .i64 s.Index]) (by kernel_rfl) (by (try dsimp only); exact ⟨(by exact updT), (by exact curT), bC⟩) (fun hHeld => ?_)
   refine wt 0 ?_
   (try simp only [redA, Act.put])
   refine wtq 1 (fun _ h => h.2.2.cell) ?_
   (try simp only [redA, Act.put])
   refine wt 2 ?_
   (try simp only [redA, Act.put])
   refine wr1 3 fun Kz hKz => ?_
   (try simp only [redA])
   go_simp
   go_at_call 16
   refine (l1From_c (cU B) (-1) 4 oM oM oM).mono ?_
   rintro e w4 ⟨_, rfl, X4, hc4, u, rfl, pu, qu⟩
   have hz4 := X4.sz
   have E4 : Upd w w4 [g] := X4.up
   have KR4 := KR3.upv X4
   have KQ4 := KQ3.upv X4
   have KD4 := KD3.upv X4
   have KA4 : Blk w4 gg 34 #[.int .i64 s.Id, .int .i64 s.Seq, .int .i64 0, .int .i64 s.Seq] := bU X4
   have Oq4 : OwnI w.heap.size 72 2 w4 (.slice aq nq kq) (dues s.View.Jobs.Open) := OwnI.drawn (by exact ownR) X4 oM
   clear X4
   clear CR3 FR3 LR3 CQ3 FQ3 LQ3 CD3 FD3 LD3 CA3 FA3 LA3
   obtain ⟨CR4, FR4, LR4⟩ := KR4.cfl
   obtain ⟨CQ4, FQ4, LQ4⟩ := KQ4.cfl
   obtain ⟨CD4, FD4, LD4⟩ := KD4.cfl
   obtain ⟨CA4, FA4, LA4⟩ := KA4.cfl
   refine hKz.o3 fun hHeld => ?_
   clear hKz Kz
   (try simp only [redA, Act.put])
   refine wt 4 ?_
   (try simp only [redA, Act.put])
   refine wt 5 ?_
   (try simp only [redA, Act.put])
   refine wr1 6 fun Kz hKz => ?_
   (try simp only [redA])
   go_simp
   refine hKz.o3 fun hHeld => ?_
   clear hKz Kz
   (try simp only [redA, Act.put])
   refine wpAnyH_done (by kernel_rfl) ?_ _
   go_wp2_with fail
   go_meet
   case rel => exact ⟨s.Id, s.Seq, 0, (IntKind.i64.wrap (s.Seq + u)), bC, (by exact updT), (by exact curT), bC, bC, bC, (by exact ownR)⟩
  ·
   obtain rfl := hway
   go_wp2_with fail
   refine (l1Below_c (cU B) 4).mono ?_
   rintro e w4 ⟨_, rfl, X4, hc4, ui, rfl, pu, qu, ru⟩
   have hz4 := X4.sz
   have E4 : Upd w w4 [g] := X4.up
   have KR4 := KR3.upv X4
   have KQ4 := KQ3.upv X4
   have KD4 := KD3.upv X4
   have KA4 := KA3.upv X4
   have KPk4 : Blk w4 w3.heap.size 2 #[.int .i64 (-1), .int .i64 0, .int .i64 2000, .int .i64 2001] := bU X4
   have Oq4 : OwnI w.heap.size 72 2 w4 (.slice aq nq kq) (dues s.View.Jobs.Open) := OwnI.drawn (by exact ownR) X4 oM
   clear X4
   clear CR3 FR3 LR3 CQ3 FQ3 LQ3 CD3 FD3 LD3 CA3 FA3 LA3
   obtain ⟨CR4, FR4, LR4⟩ := KR4.cfl
   obtain ⟨CQ4, FQ4, LQ4⟩ := KQ4.cfl
   obtain ⟨CD4, FD4, LD4⟩ := KD4.cfl
   obtain ⟨CA4, FA4, LA4⟩ := KA4.cfl
   obtain ⟨CPk4, FPk4, LPk4⟩ := KPk4.cfl
   have qu := qu dC; clear ru
   obtain ⟨u, hu⟩ : ∃ u : Int, w4.cell? ⟨w3.heap.size, ui.toNat, none⟩ = some (.int .i64 u) := by
    rw [KPk4.cell]
    have : ui.toNat < 4 := by omega
    exact pick_int [-1, 0, 2000, 2001] this
   clear CPk4
   go_wp2_with fail
   go_meet
   case rel => exact ⟨s.Id, s.Seq, x, u, bC, (by exact updT), (by exact curT), bC, bC, bC, (by exact ownR)⟩
  ·
   obtain rfl := hway
   go_wp2_with fail
   refine (l1Below_c (cU B) 4).mono ?_
   rintro e w4 ⟨_, rfl, X4, hc4, ui, rfl, pu, qu, ru⟩
   have hz4 := X4.sz
   have E4 : Upd w w4 [g] := X4.up
   have KR4 := KR3.upv X4
   have KQ4 := KQ3.upv X4
   have KD4 := KD3.upv X4
   have KA4 := KA3.upv X4
   have KPk4 : Blk w4 w3.heap.size 2 #[.int .i64 (-1), .int .i64 0, .int .i64 2000, .int .i64 2001] := bU X4
   have Oq4 : OwnI w.heap.size 72 2 w4 (.slice aq nq kq) (dues s.View.Jobs.Open) := OwnI.drawn (by exact ownR) X4 oM
   clear X4
   clear CR3 FR3 LR3 CQ3 FQ3 LQ3 CD3 FD3 LD3 CA3 FA3 LA3
   obtain ⟨CR4, FR4, LR4⟩ := KR4.cfl
   obtain ⟨CQ4, FQ4, LQ4⟩ := KQ4.cfl
   obtain ⟨CD4, FD4, LD4⟩ := KD4.cfl
   obtain ⟨CA4, FA4, LA4⟩ := KA4.cfl
   obtain ⟨CPk4, FPk4, LPk4⟩ := KPk4.cfl
   have qu := qu dC; clear ru
   obtain ⟨u, hu⟩ : ∃ u : Int, w4.cell? ⟨w3.heap.size, ui.toNat, none⟩ = some (.int .i64 u) := by
    rw [KPk4.cell]
    have : ui.toNat < 4 := by omega
    exact pick_int [-1, 0, 2000, 2001] this
   clear CPk4
   go_wp2_with fail
   go_meet
   case rel => exact ⟨s.Id, s.Seq, u, s.Seq, bC, (by exact updT), (by exact curT), bC, bC, bC, (by exact ownR)⟩
  have hb0 : (m == 0) = false := by simp; omega
  have hb1 : (m == 1) = false := by simp; omega
  have hb2 : (m == 2) = false := by simp; omega
  have hb3 : (m == 3) = false := by simp; omega
  have hb4 : (m == 4) = false := by simp; omega
  go_wp2_with fail
  go_meet
  case rel => exact ⟨s.Id, s.Seq, x, s.Seq, bC, (by exact updT), (by exact curT), bC, bC, bC, (by exact ownR)⟩
 revert wc; intro w4 hcut
 obtain ⟨a0, a1, a2, a3, KA4, E4, hc4, KR4, KQ4, KD4, Oq4⟩ := hcut
 have hz4 := E4.size
 clear CR3 FR3 LR3 CQ3 FQ3 LQ3 CD3 FD3 LD3 CA3 FA3 LA3
 obtain ⟨CR4, FR4, LR4⟩ := KR4.cfl
 obtain ⟨CQ4, FQ4, LQ4⟩ := KQ4.cfl
 obtain ⟨CD4, FD4, LD4⟩ := KD4.cfl
 obtain ⟨CA4, FA4, LA4⟩ := KA4.cfl
 have EW4 : Ext wo w4 := Ext.upd_below X0 E4 (fun k hk => by simp at hk; omega)
 go_wp2_with fail
 refine wp_region_held_drew (S := fun w' => Ext wo w' ∧ True ∧ Blk w' w1.heap.size 32 #[.int .i64 s.Id, .int .i64 s.Seq, .int .i64 s.View.Jobs.Index, .int .i64 s.View.Jobs.Time, .int .i64 s.View.Jobs.Holder, .int .i64 s.View.Jobs.Epoch, .int .i64 s.View.Jobs.Until, .slice aq nq kq, .bool bz, .int .i64 s.Op.Kind, .int .i64 s.Op.A, .int .i64 s.Op.B, .int .i64 s.Op.C, .int .i64 s.Op.D, .int .i64 s.Index] ∧ Blk w' gg 34 #[.int .i64 a0, .int .i64 a1, .int .i64 a2, .int .i64 a3]) (by kernel_rfl) (by (try dsimp only); exact ⟨(by exact extT), trivial, bC, bC⟩) (fun hHeld => ?_)
 refine wpAnyH_take (i := 0) (v := .agg ([Value.int .i64 s.Id, Value.int .i64 s.Seq, Value.int .i64 s.View.Jobs.Index, Value.int .i64 s.View.Jobs.Time, Value.int .i64 s.View.Jobs.Holder, Value.int .i64 s.View.Jobs.Epoch, Value.int .i64 s.View.Jobs.Until, Value.slice aq nq kq, Value.bool bz, Value.int .i64 s.Op.Kind, Value.int .i64 s.Op.A, Value.int .i64 s.Op.B, Value.int .i64 s.Op.C, Value.int .i64 s.Op.D, Value.int .i64 s.Index] : List Value).toArray) rfl (by kernel_rfl) (by kernel_rfl) (by kernel_rfl) (fun _ _ _ h => h) (yieldsIf_load_mid (by rfl) 32 _ rfl (w1.heap.size) 0 (by rfl) ([Value.int .i64 s.Id, Value.int .i64 s.Seq, Value.int .i64 s.View.Jobs.Index, Value.int .i64 s.View.Jobs.Time, Value.int .i64 s.View.Jobs.Holder, Value.int .i64 s.View.Jobs.Epoch, Value.int .i64 s.View.Jobs.Until, Value.slice aq nq kq, Value.bool bz, Value.int .i64 s.Op.Kind, Value.int .i64 s.Op.A, Value.int .i64 s.Op.B, Value.int .i64 s.Op.C, Value.int .i64 s.Op.D, Value.int .i64 s.Index] : List Value) _ (fun _ hSw => Bk.range (A := []) (C := []) (Bk.cast (show Bk _ (w1.heap.size) 32 ([Value.int .i64 s.Id, Value.int .i64 s.Seq, Value.int .i64 s.View.Jobs.Index, Value.int .i64 s.View.Jobs.Time, Value.int .i64 s.View.Jobs.Holder, Value.int .i64 s.View.Jobs.Epoch, Value.int .i64 s.View.Jobs.Until, Value.slice aq nq kq, Value.bool bz, Value.int .i64 s.Op.Kind, Value.int .i64 s.Op.A, Value.int .i64 s.Op.B, Value.int .i64 s.Op.C, Value.int .i64 s.Op.D, Value.int .i64 s.Index] : List Value) from hSw.2.2.1) (by simp)) rfl) Tryz.underlying32 rfl (by kernel_rfl)) (by assumption) ?_
 (try simp only [redA, Act.put])
 refine wtq 1 (fun _ h => h.2.2.2.cell) ?_
 (try simp only [redA, Act.put])
 refine wr1 2 fun Kz hKz => ?_
 (try simp only [redA])
 rw [if_pos (by rfl)]; refine wp_store_row 32 (.tmp 2) (.tmp 60) (by rfl) _ #[.int .i64 s.Id, .int .i64 s.Seq, .int .i64 s.View.Jobs.Index, .int .i64 s.View.Jobs.Time, .int .i64 s.View.Jobs.Holder, .int .i64 s.View.Jobs.Epoch, .int .i64 s.View.Jobs.Until, .slice aq nq kq, .bool bz, .int .i64 s.Op.Kind, .int .i64 s.Op.A, .int .i64 s.Op.B, .int .i64 s.Op.C, .int .i64 s.Op.D, .int .i64 s.Index] (by rfl) (by rfl) 32 _ (show Blk _ wo.heap.size 32 #[.int .i64 0, .int .i64 0, .int .i64 0, .int .i64 0, .int .i64 0, .int .i64 0, .int .i64 0, .slice none 0 0, .bool false, .int .i64 0, .int .i64 0, .int .i64 0, .int .i64 0, .int .i64 0, .int .i64 0] from by exact blkT) (by kernel_rfl) rfl (by kernel_rfl) ?_
 refine hKz.out _ _ (by (try dsimp only); exact ⟨(by exact extT), trivial, bC, bC⟩) (fun hHeld => ?_)
 clear hKz Kz
 (try simp only [redA, Act.put])
 refine wr1 3 fun Kz hKz => ?_
 (try simp only [redA])
 rw [if_pos (by rfl)]; refine wp_store_row 34 (.tmp 3) (.tmp 61) (by rfl) _ #[.int .i64 a0, .int .i64 a1, .int .i64 a2, .int .i64 a3] (by rfl) (by rfl) 34 _ (show Blk _ (wo.heap.size + 1) 34 #[.int .i64 0, .int .i64 0, .int .i64 0, .int .i64 0] from by exact blkT) (by kernel_rfl) rfl (by kernel_rfl) ?_
 refine hKz.out _ _ (by (try dsimp only); exact ⟨(by exact extT), trivial, bC, bC⟩) (fun hHeld => ?_)
 clear hKz Kz
 (try simp only [redA, Act.put])
 refine wpAnyH_done (by kernel_rfl) ?_ _
 generalize hwy : World.setRow _ _ _ = wy
 have KF : Blk wy wo.heap.size 32 #[.int .i64 s.Id, .int .i64 s.Seq, .int .i64 s.View.Jobs.Index, .int .i64 s.View.Jobs.Time, .int .i64 s.View.Jobs.Holder, .int .i64 s.View.Jobs.Epoch, .int .i64 s.View.Jobs.Until, .slice aq nq kq, .bool bz, .int .i64 s.Op.Kind, .int .i64 s.Op.A, .int .i64 s.Op.B, .int .i64 s.Op.C, .int .i64 s.Op.D, .int .i64 s.Index] := by rw [← hwy]; exact Blk.rowFar (Blk.row (show Blk _ wo.heap.size 32 #[.int .i64 0, .int .i64 0, .int .i64 0, .int .i64 0, .int .i64 0, .int .i64 0, .int .i64 0, .slice none 0 0, .bool false, .int .i64 0, .int .i64 0, .int .i64 0, .int .i64 0, .int .i64 0, .int .i64 0] from by exact blkT) _) oM _
 have KQ : Blk wy (wo.heap.size + 1) 34 #[.int .i64 a0, .int .i64 a1, .int .i64 a2, .int .i64 a3] := by rw [← hwy]; exact Blk.row (show Blk _ (wo.heap.size + 1) 34 #[.int .i64 0, .int .i64 0, .int .i64 0, .int .i64 0] from by exact blkT) _
 have XY : Ext wo wy := by rw [← hwy]; exact extT
 have OY : Ints 2 wy (.slice aq nq kq) (dues s.View.Jobs.Open) := by rw [← hwy]; exact OwnI.ints (show OwnI w.heap.size 72 2 _ (.slice aq nq kq) (dues s.View.Jobs.Open) from (by exact ownR))
 clear hwy
 have CKF := KF.cell; have FKF := KF.frozen; have LKF := KF.lt; have CKQ := KQ.cell; have FKQ := KQ.frozen; have LKQ := KQ.lt
 go_wp2_with fail
 refine bodyPost_ret (by simp [results, Tryz.results5, go_sem, CKF, FKF, LKF, CKQ, FKQ, LKQ]; try rfl) rfl ?_
 exact ⟨_, rfl, XY, s, _, a0, a1, a2, a3, rfl, _, (by rw [← HBZ.out]), OY⟩
end Go.Proofs.YtfhaooaajpopmaaGreat
