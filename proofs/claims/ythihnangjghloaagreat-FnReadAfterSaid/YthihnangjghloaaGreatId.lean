/- Contracts and plain laws: DL2 DL3. -/
import Derived.Test.YthihnangjghloaaGreatGa
import Derived.Deep.DeepCutAuto
import Derived.Test.YthihnangjghloaaGreatIc
import Derived.Test.YthihnangjghloaaGreatIb
set_option linter.unusedSimpArgs false
set_option linter.unusedVariables false
-- Draws of stores and reads.
set_option linter.unusedSimpArgs false
set_option linter.unusedVariables false
namespace Go.Proofs.YthihnangjghloaaGreat
open Go.RowKit Go.G8

set_option maxHeartbeats 4000000 in
set_option maxRecDepth 100000 in
theorem l19Draw_c {B : Nat} {w : World} {g : Nat} (h : Cur B w g) : Calls Tryz.prog 109 #[.pointer (some ⟨g, 0, none⟩)] w (Dr B w g fun v w' => ∃ s : DStore, IsStore w.heap.size w' v s) := by
 have hc0 := h; have E0 : Upd w w [g] := Upd.refl _ _
 have hg0 := h.lt
 go_enter Tryz.func109, Tryz.ntmps109
 go_wp2_with fail
 refine (l19DrawLife_c (show Cur B _ g from by exact curT)).mono ?_
 rintro e w1 ⟨_, rfl, X1, hc1, x, u, s, rfl, gs⟩
 have hz1 := X1.size; (try simp only [szA] at hz1)
 have E1 : Upd w w1 [g] := Upd.trans (by exact updT) X1
 have KR1 : Blk w1 w.heap.size 65 #[.slice none 0 0, .slice none 0 0, .int .i64 0, .int .i64 0, .slice none 0 0, .slice none 0 0, .int .i64 0, .int .i64 0, .int .i64 0, .int .i64 0, .int .i64 0, .int .i64 0] := Blk.upd1 (Blk.cast (by exact blkT) (by first | rfl | simp)) X1 (by omega)
 clear X1
 have CR1 := KR1.cell; have FR1 := KR1.frozen; have LR1 := KR1.lt
 obtain ⟨az0, nz0, kz0, az1, nz1, kz1, az4, nz4, kz4, az5, nz5, kz5, rfl⟩ := gs.rd.shape
 have gS := IsStore.mono (B' := w.heap.size) gs (by first | omega | (simp only [szA]; omega))
 clear gs
 go_wp2_with fail
 refine bodyPost_ret (by simp [results, Tryz.results109, go_sem, CR1, FR1, LR1]; try rfl) rfl ?_
 exact ⟨_, rfl, by exact updT, (by with_reducible refine Cur.ext ?_ (Ext.alloc (Ext.refl _) _); exact curT), s, gS.kp kpT⟩
set_option maxHeartbeats 4000000 in
set_option maxRecDepth 100000 in
theorem l19DrawRead_c {B : Nat} {w : World} {g : Nat} (h : Cur B w g) : Calls Tryz.prog 65 #[.pointer (some ⟨g, 0, none⟩)] w (Dr B w g fun v w' => ∃ a b c e : Int, v = .agg #[.int .i64 a, .int .i64 b, .int .i64 c, .int .i64 e]) := by
 have hc0 := h; have E0 : Upd w w [g] := Upd.refl _ _
 have hg0 := h.lt
 go_enter Tryz.func65, Tryz.ntmps65
 go_wp2_with fail
 refine (l1Below_c (show Cur B _ g from by exact curT) 2).mono ?_
 rintro e w1 ⟨_, rfl, X1, hc1, x1, rfl, px1, qx1, rx1⟩
 have hz1 := X1.size; (try simp only [szA] at hz1)
 have E1 : Upd w w1 [g] := Upd.trans (by exact updT) X1
 have KR1 : Blk w1 w.heap.size 67 #[.int .i64 0, .int .i64 0, .int .i64 0, .int .i64 0] := Blk.upd1 (Blk.cast (by exact blkT) (by first | rfl | simp)) X1 (by omega)
 clear X1
 have CR1 := KR1.cell; have FR1 := KR1.frozen; have LR1 := KR1.lt
 have qx1 := qx1 (by decide); clear rx1
 go_wp2_with fail
 refine (l1Below_c (show Cur B _ g from by exact curT) 9).mono ?_
 rintro e w2 ⟨_, rfl, X2, hc2, x2, rfl, px2, qx2, rx2⟩
 have hz2 := X2.size; (try simp only [szA] at hz2)
 have E2 : Upd w w2 [g] := Upd.trans (by exact updT) X2
 have KR2 : Blk w2 w.heap.size 67 #[.int .i64 0, .int .i64 0, .int .i64 0, .int .i64 0] := Blk.upd1 (Blk.cast (by exact blkT) (by first | rfl | simp)) X2 (by omega)
 clear X2
 clear CR1 FR1 LR1
 have CR2 := KR2.cell; have FR2 := KR2.frozen; have LR2 := KR2.lt
 have qx2 := qx2 (by decide); clear rx2
 go_wp2_with fail
 refine (l1Below_c (show Cur B _ g from by exact curT) 6).mono ?_
 rintro e w3 ⟨_, rfl, X3, hc3, x3, rfl, px3, qx3, rx3⟩
 have hz3 := X3.size; (try simp only [szA] at hz3)
 have E3 : Upd w w3 [g] := Upd.trans (by exact updT) X3
 have KR3 : Blk w3 w.heap.size 67 #[.int .i64 0, .int .i64 0, .int .i64 0, .int .i64 0] := Blk.upd1 (Blk.cast (by exact blkT) (by first | rfl | simp)) X3 (by omega)
 clear X3
 clear CR2 FR2 LR2
 have CR3 := KR3.cell; have FR3 := KR3.frozen; have LR3 := KR3.lt
 have qx3 := qx3 (by decide); clear rx3
 go_wp2_with fail
 refine (l1Below_c (show Cur B _ g from by exact curT) 12).mono ?_
 rintro e w4 ⟨_, rfl, X4, hc4, x4, rfl, px4, qx4, rx4⟩
 have hz4 := X4.size; (try simp only [szA] at hz4)
 have E4 : Upd w w4 [g] := Upd.trans (by exact updT) X4
 have KR4 : Blk w4 w.heap.size 67 #[.int .i64 0, .int .i64 0, .int .i64 0, .int .i64 0] := Blk.upd1 (Blk.cast (by exact blkT) (by first | rfl | simp)) X4 (by omega)
 clear X4
 clear CR3 FR3 LR3
 have CR4 := KR4.cell; have FR4 := KR4.frozen; have LR4 := KR4.lt
 have qx4 := qx4 (by decide); clear rx4
 go_wp2_with fail
 refine (l1Once_c (show Cur B _ g from by exact curT) 8).mono ?_
 rintro e w5 ⟨_, rfl, X5, hc5, b1, rfl⟩
 have hz5 := X5.size; (try simp only [szA] at hz5)
 have E5 : Upd w w5 [g] := Upd.trans (by exact updT) X5
 have KR5 : Blk w5 w.heap.size 67 #[.int .i64 0, .int .i64 0, .int .i64 0, .int .i64 0] := Blk.upd1 (Blk.cast (by exact blkT) (by first | rfl | simp)) X5 (by omega)
 have KD5 : Blk w5 w4.heap.size 67 #[.int .i64 (4 + x1), .int .i64 (1 + x2), .int .i64 x3, .int .i64 x4] := Blk.upd1 (Blk.cast (by exact blkT) (by first | rfl | simp)) X5 (by omega)
 clear X5
 clear CR4 FR4 LR4
 have CR5 := KR5.cell; have FR5 := KR5.frozen; have LR5 := KR5.lt
 have CD5 := KD5.cell; have FD5 := KD5.frozen; have LD5 := KD5.lt
 cases b1
 rotate_left
 ·
  skip
  go_wp2_with fail
  refine (l1Below_c (show Cur B _ g from by exact curT) 4).mono ?_
  rintro e w6 ⟨_, rfl, X6, hc6, m, rfl, pm, qm, rm⟩
  have hz6 := X6.size; (try simp only [szA] at hz6)
  have E6 : Upd w w6 [g] := Upd.trans (by exact updT) X6
  have KR6 : Blk w6 w.heap.size 67 #[.int .i64 0, .int .i64 0, .int .i64 0, .int .i64 0] := Blk.upd1 (Blk.cast (by exact blkT) (by first | rfl | simp)) X6 (by omega)
  have KD6 : Blk w6 w4.heap.size 67 #[.int .i64 (4 + x1), .int .i64 (1 + x2), .int .i64 x3, .int .i64 x4] := Blk.upd1 (Blk.cast (by exact blkT) (by first | rfl | simp)) X6 (by omega)
  clear X6
  clear CR5 FR5 LR5 CD5 FD5 LD5
  have CR6 := KR6.cell; have FR6 := KR6.frozen; have LR6 := KR6.lt
  have CD6 := KD6.cell; have FD6 := KD6.frozen; have LD6 := KD6.lt
  have qm := qm (by decide); clear rm
  obtain rfl | rfl | rfl | rfl : m = 0 ∨ m = 1 ∨ m = 2 ∨ m = 3 := by omega
  ·
   skip
   go_wp2_with fail
   refine (l1Num_c (show Cur B _ g from by exact curT) 6 (by omega) (by omega)).mono ?_
   rintro e w7 ⟨_, rfl, X7, hc7, u, rfl⟩
   have hz7 := X7.size; (try simp only [szA] at hz7)
   have E7 : Upd w w7 [g] := Upd.trans (by exact updT) X7
   have KR7 : Blk w7 w.heap.size 67 #[.int .i64 0, .int .i64 0, .int .i64 0, .int .i64 0] := Blk.upd1 (Blk.cast (by exact blkT) (by first | rfl | simp)) X7 (by omega)
   have KD7 : Blk w7 w4.heap.size 67 #[.int .i64 (4 + x1), .int .i64 (1 + x2), .int .i64 x3, .int .i64 x4] := Blk.upd1 (Blk.cast (by exact blkT) (by first | rfl | simp)) X7 (by omega)
   clear X7
   clear CR6 FR6 LR6 CD6 FD6 LD6
   have CR7 := KR7.cell; have FR7 := KR7.frozen; have LR7 := KR7.lt
   have CD7 := KD7.cell; have FD7 := KD7.frozen; have LD7 := KD7.lt
   go_wp2_with fail
   refine bodyPost_ret (by simp [results, Tryz.results65, go_sem, CR7, FR7, LR7, CD7, FD7, LD7]; try rfl) rfl ?_
   exact ⟨_, rfl, by exact updT, by exact curT, _, _, _, _, rfl⟩
  ·
   skip
   go_wp2_with fail
   refine (l1Below_c (show Cur B _ g from by exact curT) 3).mono ?_
   rintro e w7 ⟨_, rfl, X7, hc7, ui, rfl, pu, qu, ru⟩
   have hz7 := X7.size; (try simp only [szA] at hz7)
   have E7 : Upd w w7 [g] := Upd.trans (by exact updT) X7
   have KR7 : Blk w7 w.heap.size 67 #[.int .i64 0, .int .i64 0, .int .i64 0, .int .i64 0] := Blk.upd1 (Blk.cast (by exact blkT) (by first | rfl | simp)) X7 (by omega)
   have KD7 : Blk w7 w4.heap.size 67 #[.int .i64 (4 + x1), .int .i64 (1 + x2), .int .i64 x3, .int .i64 x4] := Blk.upd1 (Blk.cast (by exact blkT) (by first | rfl | simp)) X7 (by omega)
   have KPk7 : Blk w7 w6.heap.size 2 #[.int .i64 0, .int .i64 2000, .int .i64 2001] := Blk.upd1 (Blk.cast (by exact blkT) (by first | rfl | simp)) X7 (by omega)
   clear X7
   clear CR6 FR6 LR6 CD6 FD6 LD6
   have CR7 := KR7.cell; have FR7 := KR7.frozen; have LR7 := KR7.lt
   have CD7 := KD7.cell; have FD7 := KD7.frozen; have LD7 := KD7.lt
   have CPk7 := KPk7.cell; have FPk7 := KPk7.frozen; have LPk7 := KPk7.lt
   have qu := qu (by decide); clear ru
   obtain ⟨u, hu⟩ : ∃ u : Int, w7.cell? ⟨w6.heap.size, ui.toNat, none⟩ = some (.int .i64 u) := by
    rw [KPk7.cell]
    have : ui.toNat < 3 := by omega
    exact pick_int [0, 2000, 2001] this
   clear CPk7
   go_wp2_with fail
   refine bodyPost_ret (by simp [results, Tryz.results65, go_sem, CR7, FR7, LR7, CD7, FD7, LD7, FPk7, LPk7, hu]; try rfl) rfl ?_
   exact ⟨_, rfl, by exact updT, by exact curT, _, _, _, _, rfl⟩
  ·
   skip
   go_wp2_with fail
   refine (l1Below_c (show Cur B _ g from by exact curT) 3).mono ?_
   rintro e w7 ⟨_, rfl, X7, hc7, ui, rfl, pu, qu, ru⟩
   have hz7 := X7.size; (try simp only [szA] at hz7)
   have E7 : Upd w w7 [g] := Upd.trans (by exact updT) X7
   have KR7 : Blk w7 w.heap.size 67 #[.int .i64 0, .int .i64 0, .int .i64 0, .int .i64 0] := Blk.upd1 (Blk.cast (by exact blkT) (by first | rfl | simp)) X7 (by omega)
   have KD7 : Blk w7 w4.heap.size 67 #[.int .i64 (4 + x1), .int .i64 (1 + x2), .int .i64 x3, .int .i64 x4] := Blk.upd1 (Blk.cast (by exact blkT) (by first | rfl | simp)) X7 (by omega)
   have KPk7 : Blk w7 w6.heap.size 2 #[.int .i64 (-1), .int .i64 9, .int .i64 10] := Blk.upd1 (Blk.cast (by exact blkT) (by first | rfl | simp)) X7 (by omega)
   clear X7
   clear CR6 FR6 LR6 CD6 FD6 LD6
   have CR7 := KR7.cell; have FR7 := KR7.frozen; have LR7 := KR7.lt
   have CD7 := KD7.cell; have FD7 := KD7.frozen; have LD7 := KD7.lt
   have CPk7 := KPk7.cell; have FPk7 := KPk7.frozen; have LPk7 := KPk7.lt
   have qu := qu (by decide); clear ru
   obtain ⟨u, hu⟩ : ∃ u : Int, w7.cell? ⟨w6.heap.size, ui.toNat, none⟩ = some (.int .i64 u) := by
    rw [KPk7.cell]
    have : ui.toNat < 3 := by omega
    exact pick_int [-1, 9, 10] this
   clear CPk7
   go_wp2_with fail
   refine bodyPost_ret (by simp [results, Tryz.results65, go_sem, CR7, FR7, LR7, CD7, FD7, LD7, FPk7, LPk7, hu]; try rfl) rfl ?_
   exact ⟨_, rfl, by exact updT, by exact curT, _, _, _, _, rfl⟩
  ·
   skip
   go_wp2_with fail
   refine (l1Below_c (show Cur B _ g from by exact curT) 4).mono ?_
   rintro e w7 ⟨_, rfl, X7, hc7, ui, rfl, pu, qu, ru⟩
   have hz7 := X7.size; (try simp only [szA] at hz7)
   have E7 : Upd w w7 [g] := Upd.trans (by exact updT) X7
   have KR7 : Blk w7 w.heap.size 67 #[.int .i64 0, .int .i64 0, .int .i64 0, .int .i64 0] := Blk.upd1 (Blk.cast (by exact blkT) (by first | rfl | simp)) X7 (by omega)
   have KD7 : Blk w7 w4.heap.size 67 #[.int .i64 (4 + x1), .int .i64 (1 + x2), .int .i64 x3, .int .i64 x4] := Blk.upd1 (Blk.cast (by exact blkT) (by first | rfl | simp)) X7 (by omega)
   have KPk7 : Blk w7 w6.heap.size 2 #[.int .i64 (-1), .int .i64 0, .int .i64 2000, .int .i64 2001] := Blk.upd1 (Blk.cast (by exact blkT) (by first | rfl | simp)) X7 (by omega)
   clear X7
   clear CR6 FR6 LR6 CD6 FD6 LD6
   have CR7 := KR7.cell; have FR7 := KR7.frozen; have LR7 := KR7.lt
   have CD7 := KD7.cell; have FD7 := KD7.frozen; have LD7 := KD7.lt
   have CPk7 := KPk7.cell; have FPk7 := KPk7.frozen; have LPk7 := KPk7.lt
   have qu := qu (by decide); clear ru
   obtain ⟨u, hu⟩ : ∃ u : Int, w7.cell? ⟨w6.heap.size, ui.toNat, none⟩ = some (.int .i64 u) := by
    rw [KPk7.cell]
    have : ui.toNat < 4 := by omega
    exact pick_int [-1, 0, 2000, 2001] this
   clear CPk7
   go_wp2_with fail
   refine bodyPost_ret (by simp [results, Tryz.results65, go_sem, CR7, FR7, LR7, CD7, FD7, LD7, FPk7, LPk7, hu]; try rfl) rfl ?_
   exact ⟨_, rfl, by exact updT, by exact curT, _, _, _, _, rfl⟩
 ·
  skip
  go_wp2_with fail
  refine bodyPost_ret (by simp [results, Tryz.results65, go_sem, CR5, FR5, LR5, CD5, FD5, LD5]; try rfl) rfl ?_
  exact ⟨_, rfl, by exact updT, by exact curT, _, _, _, _, rfl⟩

end Go.Proofs.YthihnangjghloaaGreat

-- Draws of stores, right and bent.
set_option linter.unusedSimpArgs false
set_option linter.unusedVariables false
namespace Go.Proofs.YthihnangjghloaaGreat
open Go.RowKit Go.G8

section
variable {B B' : Nat} {w w' : World} {v t0 t1 x2 x3 t4 t5 x6 x7 x8 x9 x10 x11 : Value} {s : DStore} {D : DDisk} {st : DState}
theorem IsStore.split (h : IsStore B w (.agg #[t0, t1, x2, x3, t4, t5, x6, x7, x8, x9, x10, x11]) s) : IsDisk B w (.agg #[t0, t1]) s.Disk ∧ IsState B w (.agg #[x2, x3, t4, t5, x6, x7, x8]) s.State := by
 obtain ⟨F, v0, v1, v4, v5, s0, s1, e, h0, h1, h4, h5, hd, hF⟩ := h
 injection e with e
 simp only [Array.mk.injEq, List.cons.injEq, and_true] at e
 obtain ⟨rfl, rfl, rfl, rfl, rfl, rfl, rfl, rfl, rfl, rfl, rfl, rfl⟩ := e
 exact ⟨⟨_, _, s0, s1, rfl, h0, h1, hd⟩, ⟨_, _, rfl, h4, h5⟩⟩
theorem AnyStore.of (h : KrDisk B w (.agg #[t0, t1]) D) (k : IsState B w (.agg #[x2, x3, t4, t5, x6, x7, x8]) st) (n l b : Int) : AnyStore B w (.agg #[t0, t1, x2, x3, t4, t5, x6, x7, x8, .int .i64 n, .int .i64 l, .int .i64 b]) ⟨D, st, n, l, b⟩ := by
 obtain ⟨u4, u5, e, k4, k5⟩ := k
 injection e with e
 simp only [Array.mk.injEq, List.cons.injEq, and_true] at e
 obtain ⟨rfl, rfl, rfl, rfl, rfl, rfl, rfl⟩ := e
 exact ⟨_, _, _, _, rfl, h, k4, k5⟩
end
set_option maxHeartbeats 4000000 in
set_option maxRecDepth 100000 in
theorem l19DrawAny_c {B : Nat} {w : World} {g : Nat} (h : Cur B w g) : Calls Tryz.prog 64 #[.pointer (some ⟨g, 0, none⟩)] w (Dr B w g fun v w' => ∃ s : DStore, AnyStore w.heap.size w' v s) := by
 have hc0 := h; have E0 : Upd w w [g] := Upd.refl _ _
 have hg0 := h.lt
 go_enter Tryz.func64, Tryz.ntmps64
 go_wp2_with fail
 refine (l19Draw_c (show Cur B _ g from by exact curT)).mono ?_
 rintro e w1 ⟨_, rfl, X1, hc1, s, gs⟩
 have hz1 := X1.size; (try simp only [szA] at hz1)
 have E1 : Upd w w1 [g] := Upd.trans (by exact updT) X1
 have KR1 : Blk w1 w.heap.size 65 #[.slice none 0 0, .slice none 0 0, .int .i64 0, .int .i64 0, .slice none 0 0, .slice none 0 0, .int .i64 0, .int .i64 0, .int .i64 0, .int .i64 0, .int .i64 0, .int .i64 0] := Blk.upd1 (Blk.cast (by exact blkT) (by first | rfl | simp)) X1 (by omega)
 clear X1
 have CR1 := KR1.cell; have FR1 := KR1.frozen; have LR1 := KR1.lt
 obtain ⟨az0, nz0, kz0, az1, nz1, kz1, az4, nz4, kz4, az5, nz5, kz5, rfl⟩ := gs.rd.shape
 obtain ⟨gK0, gS0⟩ := gs.split; clear gs
 have gK := KrDisk.mono9 (B' := w.heap.size) gK0.kr (by first | omega | (simp only [szA]; omega))
 have gS := IsState.mono9 (B' := w.heap.size) gS0 (by first | omega | (simp only [szA]; omega))
 clear gK0 gS0
 go_wp2_with fail
 refine (l1Once_c (show Cur B _ g from by exact curT) 6).mono ?_
 rintro e w2 ⟨_, rfl, X2, hc2, b1, rfl⟩
 have P2 : Kp w.heap.size boxTs w1 w2 := Kp.upd kpT X2 (by omega)
 have gK := gK.kp P2
 have gS := gS.kp P2
 clear P2
 have hz2 := X2.size; (try simp only [szA] at hz2)
 have E2 : Upd w w2 [g] := Upd.trans (by exact updT) X2
 have KR2 : Blk w2 w.heap.size 65 #[.slice none 0 0, .slice none 0 0, .int .i64 0, .int .i64 0, .slice none 0 0, .slice none 0 0, .int .i64 0, .int .i64 0, .int .i64 0, .int .i64 0, .int .i64 0, .int .i64 0] := Blk.upd1 (Blk.cast (by exact blkT) (by first | rfl | simp)) X2 (by omega)
 have KD2 : Blk w2 w1.heap.size 65 #[.slice az0 nz0 kz0, .slice az1 nz1 kz1, .int .i64 s.State.Index, .int .i64 s.State.Time, .slice az4 nz4 kz4, .slice az5 nz5 kz5, .int .i64 s.State.Lease.Holder, .int .i64 s.State.Lease.Epoch, .int .i64 s.State.Lease.Until, .int .i64 s.Num, .int .i64 s.Last, .int .i64 s.Busy] := Blk.upd1 (Blk.cast (by exact blkT) (by first | rfl | simp)) X2 (by omega)
 clear X2
 clear CR1 FR1 LR1
 have CR2 := KR2.cell; have FR2 := KR2.frozen; have LR2 := KR2.lt
 have CD2 := KD2.cell; have FD2 := KD2.frozen; have LD2 := KD2.lt
 cases b1
 rotate_left
 ·
  skip
  go_wp2_with fail
  refine (l1Below_c (show Cur B _ g from by exact curT) 6).mono ?_
  rintro e w3 ⟨_, rfl, X3, hc3, m, rfl, pm, qm, rm⟩
  have P3 : Kp w.heap.size boxTs w2 w3 := Kp.upd kpT X3 (by omega)
  have gK := gK.kp P3
  have gS := gS.kp P3
  clear P3
  have hz3 := X3.size; (try simp only [szA] at hz3)
  have E3 : Upd w w3 [g] := Upd.trans (by exact updT) X3
  have KR3 : Blk w3 w.heap.size 65 #[.slice none 0 0, .slice none 0 0, .int .i64 0, .int .i64 0, .slice none 0 0, .slice none 0 0, .int .i64 0, .int .i64 0, .int .i64 0, .int .i64 0, .int .i64 0, .int .i64 0] := Blk.upd1 (Blk.cast (by exact blkT) (by first | rfl | simp)) X3 (by omega)
  have KD3 : Blk w3 w1.heap.size 65 #[.slice az0 nz0 kz0, .slice az1 nz1 kz1, .int .i64 s.State.Index, .int .i64 s.State.Time, .slice az4 nz4 kz4, .slice az5 nz5 kz5, .int .i64 s.State.Lease.Holder, .int .i64 s.State.Lease.Epoch, .int .i64 s.State.Lease.Until, .int .i64 s.Num, .int .i64 s.Last, .int .i64 s.Busy] := Blk.upd1 (Blk.cast (by exact blkT) (by first | rfl | simp)) X3 (by omega)
  clear X3
  clear CR2 FR2 LR2 CD2 FD2 LD2
  have CR3 := KR3.cell; have FR3 := KR3.frozen; have LR3 := KR3.lt
  have CD3 := KD3.cell; have FD3 := KD3.frozen; have LD3 := KD3.lt
  have qm := qm (by decide); clear rm
  obtain rfl | rfl | rfl | rfl | rfl | rfl : m = 0 ∨ m = 1 ∨ m = 2 ∨ m = 3 ∨ m = 4 ∨ m = 5 := by omega
  ·
   skip
   go_wp2_with fail
   refine (l18DrawAnyShelf_c (show Cur B _ g from by exact curT)).mono ?_
   rintro e w4 ⟨_, rfl, X4, hc4, d3, g3⟩
   have P4 : Kp w.heap.size boxTs w3 w4 := Kp.upd kpT X4 (by omega)
   have gK := gK.kp P4
   have gS := gS.kp P4
   clear P4
   have hz4 := X4.size; (try simp only [szA] at hz4)
   have E4 : Upd w w4 [g] := Upd.trans (by exact updT) X4
   have KR4 : Blk w4 w.heap.size 65 #[.slice none 0 0, .slice none 0 0, .int .i64 0, .int .i64 0, .slice none 0 0, .slice none 0 0, .int .i64 0, .int .i64 0, .int .i64 0, .int .i64 0, .int .i64 0, .int .i64 0] := Blk.upd1 (Blk.cast (by exact blkT) (by first | rfl | simp)) X4 (by omega)
   have KD4 : Blk w4 w1.heap.size 65 #[.slice az0 nz0 kz0, .slice az1 nz1 kz1, .int .i64 s.State.Index, .int .i64 s.State.Time, .slice az4 nz4 kz4, .slice az5 nz5 kz5, .int .i64 s.State.Lease.Holder, .int .i64 s.State.Lease.Epoch, .int .i64 s.State.Lease.Until, .int .i64 s.Num, .int .i64 s.Last, .int .i64 s.Busy] := Blk.upd1 (Blk.cast (by exact blkT) (by first | rfl | simp)) X4 (by omega)
   clear X4
   clear CR3 FR3 LR3 CD3 FD3 LD3
   have CR4 := KR4.cell; have FR4 := KR4.frozen; have LR4 := KR4.lt
   have CD4 := KD4.cell; have FD4 := KD4.frozen; have LD4 := KD4.lt
   obtain ⟨ab0, nb0, kb0, ab1, nb1, kb1, rfl⟩ := g3.rd.shape
   replace g3 := g3.mono9 (B' := w.heap.size) (by first | omega | (simp only [szA]; omega))
   go_wp2_with fail
   refine bodyPost_ret (by simp [results, Tryz.results64, go_sem, CR4, FR4, LR4, CD4, FD4, LD4]; try rfl) rfl ?_
   exact ⟨_, rfl, by exact updT, by exact curT, _, AnyStore.of (g3.kp kpT) (gS.kp kpT) _ _ _⟩
  ·
   skip
   go_wp2_with fail
   refine (l17DrawAny_c (show Cur B _ g from by exact curT)).mono ?_
   rintro e w4 ⟨_, rfl, X4, hc4, s3, h3⟩
   have P4 : Kp w.heap.size boxTs w3 w4 := Kp.upd kpT X4 (by omega)
   have gK := gK.kp P4
   have gS := gS.kp P4
   clear P4
   have hz4 := X4.size; (try simp only [szA] at hz4)
   have E4 : Upd w w4 [g] := Upd.trans (by exact updT) X4
   have KR4 : Blk w4 w.heap.size 65 #[.slice none 0 0, .slice none 0 0, .int .i64 0, .int .i64 0, .slice none 0 0, .slice none 0 0, .int .i64 0, .int .i64 0, .int .i64 0, .int .i64 0, .int .i64 0, .int .i64 0] := Blk.upd1 (Blk.cast (by exact blkT) (by first | rfl | simp)) X4 (by omega)
   have KD4 : Blk w4 w1.heap.size 65 #[.slice az0 nz0 kz0, .slice az1 nz1 kz1, .int .i64 s.State.Index, .int .i64 s.State.Time, .slice az4 nz4 kz4, .slice az5 nz5 kz5, .int .i64 s.State.Lease.Holder, .int .i64 s.State.Lease.Epoch, .int .i64 s.State.Lease.Until, .int .i64 s.Num, .int .i64 s.Last, .int .i64 s.Busy] := Blk.upd1 (Blk.cast (by exact blkT) (by first | rfl | simp)) X4 (by omega)
   clear X4
   clear CR3 FR3 LR3 CD3 FD3 LD3
   have CR4 := KR4.cell; have FR4 := KR4.frozen; have LR4 := KR4.lt
   have CD4 := KD4.cell; have FD4 := KD4.frozen; have LD4 := KD4.lt
   replace h3 := IsState.mono9 (B' := w.heap.size) h3 (by first | omega | (simp only [szA]; omega))
   have h39 := h3
   obtain ⟨t2, t3, rfl, h4, h5⟩ := h39
   obtain ⟨a4, n4, k4, rfl⟩ := h4.shape
   obtain ⟨a5, n5, k5, rfl⟩ := h5.shape
   clear h4 h5
   go_wp2_with fail
   refine bodyPost_ret (by simp [results, Tryz.results64, go_sem, CR4, FR4, LR4, CD4, FD4, LD4]; try rfl) rfl ?_
   exact ⟨_, rfl, by exact updT, by exact curT, _, AnyStore.of (gK.kp kpT) (h3.kp kpT) _ _ _⟩
  ·
   skip
   go_wp2_with fail
   refine (l1Below_c (show Cur B _ g from by exact curT) 5).mono ?_
   rintro e w4 ⟨_, rfl, X4, hc4, ui, rfl, pu, qu, ru⟩
   have P4 : Kp w.heap.size boxTs w3 w4 := Kp.upd kpT X4 (by omega)
   have gK := gK.kp P4
   have gS := gS.kp P4
   clear P4
   have hz4 := X4.size; (try simp only [szA] at hz4)
   have E4 : Upd w w4 [g] := Upd.trans (by exact updT) X4
   have KR4 : Blk w4 w.heap.size 65 #[.slice none 0 0, .slice none 0 0, .int .i64 0, .int .i64 0, .slice none 0 0, .slice none 0 0, .int .i64 0, .int .i64 0, .int .i64 0, .int .i64 0, .int .i64 0, .int .i64 0] := Blk.upd1 (Blk.cast (by exact blkT) (by first | rfl | simp)) X4 (by omega)
   have KD4 : Blk w4 w1.heap.size 65 #[.slice az0 nz0 kz0, .slice az1 nz1 kz1, .int .i64 s.State.Index, .int .i64 s.State.Time, .slice az4 nz4 kz4, .slice az5 nz5 kz5, .int .i64 s.State.Lease.Holder, .int .i64 s.State.Lease.Epoch, .int .i64 s.State.Lease.Until, .int .i64 s.Num, .int .i64 s.Last, .int .i64 s.Busy] := Blk.upd1 (Blk.cast (by exact blkT) (by first | rfl | simp)) X4 (by omega)
   have KPk4 : Blk w4 w3.heap.size 2 #[.int .i64 (-1), .int .i64 0, .int .i64 1, .int .i64 1000000000, .int .i64 1000000001] := Blk.upd1 (Blk.cast (by exact blkT) (by first | rfl | simp)) X4 (by omega)
   clear X4
   clear CR3 FR3 LR3 CD3 FD3 LD3
   have CR4 := KR4.cell; have FR4 := KR4.frozen; have LR4 := KR4.lt
   have CD4 := KD4.cell; have FD4 := KD4.frozen; have LD4 := KD4.lt
   have CPk4 := KPk4.cell; have FPk4 := KPk4.frozen; have LPk4 := KPk4.lt
   have qu := qu (by decide); clear ru
   obtain ⟨u, hu⟩ : ∃ u : Int, w4.cell? ⟨w3.heap.size, ui.toNat, none⟩ = some (.int .i64 u) := by
    rw [KPk4.cell]
    have : ui.toNat < 5 := by omega
    exact pick_int [-1, 0, 1, 1000000000, 1000000001] this
   clear CPk4
   go_wp2_with fail
   refine bodyPost_ret (by simp [results, Tryz.results64, go_sem, CR4, FR4, LR4, CD4, FD4, LD4, FPk4, LPk4, hu]; try rfl) rfl ?_
   exact ⟨_, rfl, by exact updT, by exact curT, _, AnyStore.of (gK.kp kpT) (gS.kp kpT) _ _ _⟩
  ·
   skip
   go_wp2_with fail
   refine (l1Num_c (show Cur B _ g from by exact curT) 20 (by omega) (by omega)).mono ?_
   rintro e w4 ⟨_, rfl, X4, hc4, u, rfl⟩
   have P4 : Kp w.heap.size boxTs w3 w4 := Kp.upd kpT X4 (by omega)
   have gK := gK.kp P4
   have gS := gS.kp P4
   clear P4
   have hz4 := X4.size; (try simp only [szA] at hz4)
   have E4 : Upd w w4 [g] := Upd.trans (by exact updT) X4
   have KR4 : Blk w4 w.heap.size 65 #[.slice none 0 0, .slice none 0 0, .int .i64 0, .int .i64 0, .slice none 0 0, .slice none 0 0, .int .i64 0, .int .i64 0, .int .i64 0, .int .i64 0, .int .i64 0, .int .i64 0] := Blk.upd1 (Blk.cast (by exact blkT) (by first | rfl | simp)) X4 (by omega)
   have KD4 : Blk w4 w1.heap.size 65 #[.slice az0 nz0 kz0, .slice az1 nz1 kz1, .int .i64 s.State.Index, .int .i64 s.State.Time, .slice az4 nz4 kz4, .slice az5 nz5 kz5, .int .i64 s.State.Lease.Holder, .int .i64 s.State.Lease.Epoch, .int .i64 s.State.Lease.Until, .int .i64 s.Num, .int .i64 s.Last, .int .i64 s.Busy] := Blk.upd1 (Blk.cast (by exact blkT) (by first | rfl | simp)) X4 (by omega)
   clear X4
   clear CR3 FR3 LR3 CD3 FD3 LD3
   have CR4 := KR4.cell; have FR4 := KR4.frozen; have LR4 := KR4.lt
   have CD4 := KD4.cell; have FD4 := KD4.frozen; have LD4 := KD4.lt
   go_wp2_with fail
   refine bodyPost_ret (by simp [results, Tryz.results64, go_sem, CR4, FR4, LR4, CD4, FD4, LD4]; try rfl) rfl ?_
   exact ⟨_, rfl, by exact updT, by exact curT, _, AnyStore.of (gK.kp kpT) (gS.kp kpT) _ _ _⟩
  ·
   skip
   go_wp2_with fail
   refine (l1Num_c (show Cur B _ g from by exact curT) 20 (by omega) (by omega)).mono ?_
   rintro e w4 ⟨_, rfl, X4, hc4, u, rfl⟩
   have P4 : Kp w.heap.size boxTs w3 w4 := Kp.upd kpT X4 (by omega)
   have gK := gK.kp P4
   have gS := gS.kp P4
   clear P4
   have hz4 := X4.size; (try simp only [szA] at hz4)
   have E4 : Upd w w4 [g] := Upd.trans (by exact updT) X4
   have KR4 : Blk w4 w.heap.size 65 #[.slice none 0 0, .slice none 0 0, .int .i64 0, .int .i64 0, .slice none 0 0, .slice none 0 0, .int .i64 0, .int .i64 0, .int .i64 0, .int .i64 0, .int .i64 0, .int .i64 0] := Blk.upd1 (Blk.cast (by exact blkT) (by first | rfl | simp)) X4 (by omega)
   have KD4 : Blk w4 w1.heap.size 65 #[.slice az0 nz0 kz0, .slice az1 nz1 kz1, .int .i64 s.State.Index, .int .i64 s.State.Time, .slice az4 nz4 kz4, .slice az5 nz5 kz5, .int .i64 s.State.Lease.Holder, .int .i64 s.State.Lease.Epoch, .int .i64 s.State.Lease.Until, .int .i64 s.Num, .int .i64 s.Last, .int .i64 s.Busy] := Blk.upd1 (Blk.cast (by exact blkT) (by first | rfl | simp)) X4 (by omega)
   clear X4
   clear CR3 FR3 LR3 CD3 FD3 LD3
   have CR4 := KR4.cell; have FR4 := KR4.frozen; have LR4 := KR4.lt
   have CD4 := KD4.cell; have FD4 := KD4.frozen; have LD4 := KD4.lt
   go_wp2_with fail
   refine bodyPost_ret (by simp [results, Tryz.results64, go_sem, CR4, FR4, LR4, CD4, FD4, LD4]; try rfl) rfl ?_
   exact ⟨_, rfl, by exact updT, by exact curT, _, AnyStore.of (gK.kp kpT) (gS.kp kpT) _ _ _⟩
  ·
   skip
   go_wp2_with fail
   refine (l1Below_c (show Cur B _ g from by exact curT) 2).mono ?_
   rintro e w4 ⟨_, rfl, X4, hc4, x, rfl, px, qx, rx⟩
   have P4 : Kp w.heap.size boxTs w3 w4 := Kp.upd kpT X4 (by omega)
   have gK := gK.kp P4
   have gS := gS.kp P4
   clear P4
   have hz4 := X4.size; (try simp only [szA] at hz4)
   have E4 : Upd w w4 [g] := Upd.trans (by exact updT) X4
   have KR4 : Blk w4 w.heap.size 65 #[.slice none 0 0, .slice none 0 0, .int .i64 0, .int .i64 0, .slice none 0 0, .slice none 0 0, .int .i64 0, .int .i64 0, .int .i64 0, .int .i64 0, .int .i64 0, .int .i64 0] := Blk.upd1 (Blk.cast (by exact blkT) (by first | rfl | simp)) X4 (by omega)
   have KD4 : Blk w4 w1.heap.size 65 #[.slice az0 nz0 kz0, .slice az1 nz1 kz1, .int .i64 s.State.Index, .int .i64 s.State.Time, .slice az4 nz4 kz4, .slice az5 nz5 kz5, .int .i64 s.State.Lease.Holder, .int .i64 s.State.Lease.Epoch, .int .i64 s.State.Lease.Until, .int .i64 s.Num, .int .i64 s.Last, .int .i64 s.Busy] := Blk.upd1 (Blk.cast (by exact blkT) (by first | rfl | simp)) X4 (by omega)
   clear X4
   clear CR3 FR3 LR3 CD3 FD3 LD3
   have CR4 := KR4.cell; have FR4 := KR4.frozen; have LR4 := KR4.lt
   have CD4 := KD4.cell; have FD4 := KD4.frozen; have LD4 := KD4.lt
   have qx := qx (by decide); clear rx
   go_wp2_with fail
   refine (l17Draw_c (show Cur B _ g from by exact curT)).mono ?_
   rintro e w5 ⟨_, rfl, X5, hc5, s3, h3⟩
   have P5 : Kp w.heap.size boxTs w4 w5 := Kp.upd kpT X5 (by omega)
   have gK := gK.kp P5
   have gS := gS.kp P5
   clear P5
   have hz5 := X5.size; (try simp only [szA] at hz5)
   have E5 : Upd w w5 [g] := Upd.trans (by exact updT) X5
   have KR5 : Blk w5 w.heap.size 65 #[.slice none 0 0, .slice none 0 0, .int .i64 0, .int .i64 0, .slice none 0 0, .slice none 0 0, .int .i64 0, .int .i64 0, .int .i64 0, .int .i64 0, .int .i64 0, .int .i64 0] := Blk.upd1 (Blk.cast (by exact blkT) (by first | rfl | simp)) X5 (by omega)
   have KD5 : Blk w5 w1.heap.size 65 #[.slice az0 nz0 kz0, .slice az1 nz1 kz1, .int .i64 s.State.Index, .int .i64 s.State.Time, .slice az4 nz4 kz4, .slice az5 nz5 kz5, .int .i64 s.State.Lease.Holder, .int .i64 s.State.Lease.Epoch, .int .i64 s.State.Lease.Until, .int .i64 (1000000000 - x), .int .i64 s.Last, .int .i64 s.Busy] := Blk.upd1 (Blk.cast (by exact blkT) (by first | rfl | simp)) X5 (by omega)
   clear X5
   clear CR4 FR4 LR4 CD4 FD4 LD4
   have CR5 := KR5.cell; have FR5 := KR5.frozen; have LR5 := KR5.lt
   have CD5 := KD5.cell; have FD5 := KD5.frozen; have LD5 := KD5.lt
   replace h3 := IsState.mono9 (B' := w.heap.size) h3 (by first | omega | (simp only [szA]; omega))
   have h39 := h3
   obtain ⟨t2, t3, rfl, h4, h5⟩ := h39
   obtain ⟨a4, n4, k4, rfl⟩ := h4.shape
   obtain ⟨a5, n5, k5, rfl⟩ := h5.shape
   clear h4 h5
   go_wp2_with fail
   refine (l1Min_c _ _).mono ?_
   rintro e9 w9 ⟨rfl, rfl⟩
   go_wp2_with fail
   refine bodyPost_ret (by simp [results, Tryz.results64, go_sem, CR5, FR5, LR5, CD5, FD5, LD5]; try rfl) rfl ?_
   exact ⟨_, rfl, by exact updT, by exact curT, _, AnyStore.of (gK.kp kpT) (h3.kp kpT) _ _ _⟩
 ·
  skip
  go_wp2_with fail
  refine bodyPost_ret (by simp [results, Tryz.results64, go_sem, CR2, FR2, LR2, CD2, FD2, LD2]; try rfl) rfl ?_
  exact ⟨_, rfl, by exact updT, by exact curT, _, AnyStore.of (gK.kp kpT) (gS.kp kpT) _ _ _⟩

end Go.Proofs.YthihnangjghloaaGreat
