/- Contracts and plain laws: DS DS3 DS2 DS4 DS5 DS6. -/
import Derived.Test.YtfhaooaajpopmaaGreatMa
import Derived.Deep.DeepCutAuto
import Derived.Test.YtfhaooaajpopmaaGreatMo
import Derived.Test.YtfhaooaajpopmaaGreatMk
set_option linter.unusedSimpArgs false
set_option linter.unusedVariables false
set_option maxHeartbeats 8000000
set_option maxRecDepth 100000
namespace Go.Proofs.YtfhaooaajpopmaaGreat
open Go.RowKit Go.G8
theorem OwnI.updX {B : Nat} {e t : TypeId} {n : Nat} {w w' : World} {v : Value} {xs : List Int} {X : Nat} {a : Array Value} (h : OwnI B e n w v xs) (hX : Blk w X t a) (h1 : t ≠ e) (x : Upd w w' [X]) : OwnI B e n w' v xs :=
 Own.upd h x (fun k hk hm => by
  have hm : k = X := by simpa using hm
  subst hm
  obtain ⟨c, hc⟩ := Own.typed' h hk
  unfold Blk at hc hX
  rw [hX] at hc
  injection hc with hc
  injection hc with _ hc
  exact h1 hc)
theorem ow_edx0 {B : Nat} {e : TypeId} {n : Nat} {w w' : World} {v : Value} {xs : List Int} {t0 : TypeId} {k0 : Nat} {c0 : Array Value} (O : OwnI B e n w v xs) (K0 : Blk w k0 t0 c0) (h : OwnI B e n w v xs → Blk w k0 t0 c0 → OwnI B e n w' v xs := by intro O1 K0; first | (with_reducible exact O1) | (refine OwnI.drawn O1 ?_ (by omega); (exact updT); done) | (refine OwnI.updX O1 K0 (by decide) ?_; (exact updT); done)) : OwnI B e n w' v xs := h O K0
theorem ow_ex0n {B : Nat} {e : TypeId} {n : Nat} {w w' : World} {v : Value} {xs : List Int} {t0 : TypeId} {k0 : Nat} {c0 : Array Value} (O : OwnI B e n w v xs) (K0 : Blk w k0 t0 c0) (h : OwnI B e n w v xs → Blk w k0 t0 c0 → OwnI B e n w' v xs := by intro O1 K0; first | (with_reducible exact O1) | (refine OwnI.updX O1 K0 (by decide) ?_; (exact updT); done) | (exact ownT)) : OwnI B e n w' v xs := h O K0
theorem IsState.drawn {M : Nat} {w w' : World} {v : Value} {s : DState} {g : Nat} (h : IsState M w v s) (x : Upd w w' [g]) (hg : g < M) : IsState M w' v s := let ⟨t2, t3, e, h2, h3⟩ := h; ⟨t2, t3, e, h2.drawn x hg, h3.drawn x hg⟩
theorem IsState.nil (M : Nat) (w : World) : IsState M w (.agg #[.int .i64 0, .int .i64 0, .slice none 0 0, .slice none 0 0, .int .i64 0, .int .i64 0, .int .i64 0]) ⟨0, 0, [], [], ⟨0, 0, 0⟩⟩ := ⟨_, _, rfl, OwnI.nil _ _ _ _, OwnI.nil _ _ _ _⟩
theorem capOp_c (w : World) (k0 k1 k2 k3 k4 : Int) : Calls Tryz.prog 81 #[.agg #[.int .i64 k0, .int .i64 k1, .int .i64 k2, .int .i64 k3, .int .i64 k4]] w (Ret w fun v _ => ∃ x y z t u : Int, v = .agg #[.int .i64 x, .int .i64 y, .int .i64 z, .int .i64 t, .int .i64 u]) := by
 go_enter Tryz.func81, Tryz.ntmps81
 by_cases hk : k0 = 3
 ·
  subst hk
  go_wp2_with (go_at_call 38; refine (l1Min_c _ _).mono ?_; rintro e w9 ⟨rfl, rfl⟩)
  refine bodyPost_ret (by simp [results, Tryz.results81, go_sem]; try rfl) rfl ?_
  exact ⟨_, rfl, xT, _, _, _, _, _, rfl⟩
 have hb : (k0 == 3) = false := by simp [hk]
 go_wp2_with fail
 refine bodyPost_ret (by simp [results, Tryz.results81, go_sem]; try rfl) rfl ?_
 exact ⟨_, rfl, xT, _, _, _, _, _, rfl⟩
theorem drawOp_c {B : Nat} {w : World} {g : Nat} (h : Cur B w g) {M : Nat} (hM : g < M) {t : Value} {s : DState} (hs : IsState M w t s) (cl : Int) : Calls Tryz.prog 35 #[.pointer (some ⟨g, 0, none⟩), t, .int .i64 cl] w (Dr B w g fun v w' => ∃ x y z t u : Int, v = .agg #[.int .i64 x, .int .i64 y, .int .i64 z, .int .i64 t, .int .i64 u]) := by
 obtain ⟨t2, t3, rfl, h2, h3⟩ := hs
 obtain ⟨a2, n2, k2, rfl⟩ := h2.shape
 obtain ⟨a3, n3, k3, rfl⟩ := h3.shape
 have Op0 := h2; have Oj0 := h3; clear h2 h3
 have hc0 := h; have E0 : Upd w w [g] := Upd.refl _ _
 have hg0 := h.lt
 go_enter Tryz.func35, Tryz.ntmps35
 go_wp2_with fail
 refine (l1Below_c (cU B) 12).mono ?_
 rintro e w1 ⟨_, rfl, X1, hc1, x0, rfl, px0, qx0, rx0⟩
 have hz1 := X1.sz
 have E1 : Upd w w1 [g] := X1.up
 have KS1 : Blk w1 w.heap.size 62 #[.int .i64 s.Index, .int .i64 s.Time, .slice a2 n2 k2, .slice a3 n3 k3, .int .i64 s.Lease.Holder, .int .i64 s.Lease.Epoch, .int .i64 s.Lease.Until] := bU X1
 have KR1 : Blk w1 (w.heap.size + 1) 30 #[.int .i64 0, .int .i64 0, .int .i64 0, .int .i64 0, .int .i64 0] := bU X1
 have Op1 : OwnI M 122 2 w1 (.slice a2 n2 k2) (flPair s.Pairs) := OwnI.drawn (by exact ownT) X1 oM
 have Oj1 : OwnI M 86 5 w1 (.slice a3 n3 k3) (flJob s.Jobs) := OwnI.drawn (by exact ownT) X1 oM
 clear X1
 obtain ⟨CS1, FS1, LS1⟩ := KS1.cfl
 obtain ⟨CR1, FR1, LR1⟩ := KR1.cfl
 have qx0 := qx0 dC; clear rx0
 obtain hway | hway | hway | hway | hway : (x0 = 0 ∨ x0 = 1 ∨ x0 = 2) ∨ (x0 = 3) ∨ (x0 = 4 ∨ x0 = 5 ∨ x0 = 6) ∨ (x0 = 7 ∨ x0 = 8) ∨ x0 ≥ 9 := by omega
 ·
  obtain rfl | rfl | rfl := hway
  all_goals
   go_wp2_with fail
   refine (l1Below_c (cU B) 5).mono ?_
   rintro e w2 ⟨_, rfl, X2, hc2, x1, rfl, px1, qx1, rx1⟩
   have hz2 := X2.sz
   have E2 : Upd w w2 [g] := X2.up
   have KS2 := KS1.upv X2
   have KR2 := KR1.upv X2
   have Op2 : OwnI M 122 2 w2 (.slice a2 n2 k2) (flPair s.Pairs) := OwnI.drawn (by exact ownT) X2 oM
   have Oj2 : OwnI M 86 5 w2 (.slice a3 n3 k3) (flJob s.Jobs) := OwnI.drawn (by exact ownT) X2 oM
   clear X2
   clear CS1 FS1 LS1 CR1 FR1 LR1
   obtain ⟨CS2, FS2, LS2⟩ := KS2.cfl
   obtain ⟨CR2, FR2, LR2⟩ := KR2.cfl
   have qx1 := qx1 dC; clear rx1
   go_wp2_with fail
   refine (l1Below_c (cU B) 9).mono ?_
   rintro e w3 ⟨_, rfl, X3, hc3, x2, rfl, px2, qx2, rx2⟩
   have hz3 := X3.sz
   have E3 : Upd w w3 [g] := X3.up
   have KS3 := KS2.upv X3
   have KR3 := KR2.upv X3
   have Op3 : OwnI M 122 2 w3 (.slice a2 n2 k2) (flPair s.Pairs) := OwnI.drawn (by exact ownT) X3 oM
   have Oj3 : OwnI M 86 5 w3 (.slice a3 n3 k3) (flJob s.Jobs) := OwnI.drawn (by exact ownT) X3 oM
   clear X3
   clear CS2 FS2 LS2 CR2 FR2 LR2
   obtain ⟨CS3, FS3, LS3⟩ := KS3.cfl
   obtain ⟨CR3, FR3, LR3⟩ := KR3.cfl
   have qx2 := qx2 dC; clear rx2
   go_wp2_with fail
   refine bodyPost_ret (by simp [results, Tryz.results35, go_sem, CS3, FS3, LS3, CR3, FR3, LR3]; try rfl) rfl ?_
   exact ⟨_, rfl, by exact updT, by exact curT, _, _, _, _, _, rfl⟩
 ·
  obtain rfl := hway
  go_wp2_with fail
  refine (l1Below_c (cU B) 5).mono ?_
  rintro e w2 ⟨_, rfl, X2, hc2, x1, rfl, px1, qx1, rx1⟩
  have hz2 := X2.sz
  have E2 : Upd w w2 [g] := X2.up
  have KS2 := KS1.upv X2
  have KR2 := KR1.upv X2
  have Op2 : OwnI M 122 2 w2 (.slice a2 n2 k2) (flPair s.Pairs) := OwnI.drawn (by exact ownT) X2 oM
  have Oj2 : OwnI M 86 5 w2 (.slice a3 n3 k3) (flJob s.Jobs) := OwnI.drawn (by exact ownT) X2 oM
  clear X2
  clear CS1 FS1 LS1 CR1 FR1 LR1
  obtain ⟨CS2, FS2, LS2⟩ := KS2.cfl
  obtain ⟨CR2, FR2, LR2⟩ := KR2.cfl
  have qx1 := qx1 dC; clear rx1
  go_wp2_with fail
  refine bodyPost_ret (by simp [results, Tryz.results35, go_sem, CS2, FS2, LS2, CR2, FR2, LR2]; try rfl) rfl ?_
  exact ⟨_, rfl, by exact updT, by exact curT, _, _, _, _, _, rfl⟩
 ·
  obtain rfl | rfl | rfl := hway
  all_goals
   go_wp2_with fail
   refine wp_region_held_drew (S := fun w' => Upd w w' [g] ∧ Cur B w' g ∧ Blk w' w.heap.size 62 #[.int .i64 s.Index, .int .i64 s.Time, .slice a2 n2 k2, .slice a3 n3 k3, .int .i64 s.Lease.Holder, .int .i64 s.Lease.Epoch, .int .i64 s.Lease.Until]) (by kernel_rfl) (by (try dsimp only); exact ⟨(by exact updT), (by exact curT), bC⟩) (fun hHeld => ?_)
   refine wt 0 ?_
   (try simp only [redA, Act.put])
   refine wt 3 ?_
   (try simp only [redA, Act.put])
   refine wtq 4 (fun _ h => h.2.2.cell) ?_
   (try simp only [redA, Act.put])
   refine wt 5 ?_
   (try simp only [redA, Act.put])
   refine wt 8 ?_
   (try simp only [redA, Act.put])
   refine wt 10 ?_
   (try simp only [redA, Act.put])
   refine wr1 1 fun Kz hKz => ?_
   (try simp only [redA])
   go_simp
   go_at_call 14
   refine (l1Below_c (cU B) 9).mono ?_
   rintro e w2 ⟨_, rfl, X2, hc2, x1, rfl, px1, qx1, rx1⟩
   have hz2 := X2.sz
   have E2 : Upd w w2 [g] := X2.up
   have KS2 := KS1.upv X2
   have KR2 := KR1.upv X2
   have Op2 : OwnI M 122 2 w2 (.slice a2 n2 k2) (flPair s.Pairs) := OwnI.drawn (by exact ownT) X2 oM
   have Oj2 : OwnI M 86 5 w2 (.slice a3 n3 k3) (flJob s.Jobs) := OwnI.drawn (by exact ownT) X2 oM
   clear X2
   clear CS1 FS1 LS1 CR1 FR1 LR1
   obtain ⟨CS2, FS2, LS2⟩ := KS2.cfl
   obtain ⟨CR2, FR2, LR2⟩ := KR2.cfl
   refine hKz.o3 fun hHeld => ?_
   clear hKz Kz
   (try simp only [redA, Act.put])
   refine wt 2 ?_
   (try simp only [redA, Act.put])
   refine wr1 6 fun Kz hKz => ?_
   (try simp only [redA])
   go_simp
   go_at_call 14
   refine (l1Below_c (cU B) 12).mono ?_
   rintro e w3 ⟨_, rfl, X3, hc3, x2, rfl, px2, qx2, rx2⟩
   have hz3 := X3.sz
   have E3 : Upd w w3 [g] := X3.up
   have KS3 := KS2.upv X3
   have KR3 := KR2.upv X3
   have Op3 : OwnI M 122 2 w3 (.slice a2 n2 k2) (flPair s.Pairs) := OwnI.drawn (by exact ownT) X3 oM
   have Oj3 : OwnI M 86 5 w3 (.slice a3 n3 k3) (flJob s.Jobs) := OwnI.drawn (by exact ownT) X3 oM
   clear X3
   clear CS2 FS2 LS2 CR2 FR2 LR2
   obtain ⟨CS3, FS3, LS3⟩ := KS3.cfl
   obtain ⟨CR3, FR3, LR3⟩ := KR3.cfl
   refine hKz.o3 fun hHeld => ?_
   clear hKz Kz
   (try simp only [redA, Act.put])
   refine wt 7 ?_
   (try simp only [redA, Act.put])
   refine wr1 9 fun Kz hKz => ?_
   (try simp only [redA])
   go_simp
   go_at_call 14
   refine (l1Below_c (cU B) 5).mono ?_
   rintro e w4 ⟨_, rfl, X4, hc4, x3, rfl, px3, qx3, rx3⟩
   have hz4 := X4.sz
   have E4 : Upd w w4 [g] := X4.up
   have KS4 := KS3.upv X4
   have KR4 := KR3.upv X4
   have Op4 : OwnI M 122 2 w4 (.slice a2 n2 k2) (flPair s.Pairs) := OwnI.drawn (by exact ownT) X4 oM
   have Oj4 : OwnI M 86 5 w4 (.slice a3 n3 k3) (flJob s.Jobs) := OwnI.drawn (by exact ownT) X4 oM
   clear X4
   clear CS3 FS3 LS3 CR3 FR3 LR3
   obtain ⟨CS4, FS4, LS4⟩ := KS4.cfl
   obtain ⟨CR4, FR4, LR4⟩ := KR4.cfl
   refine hKz.o3 fun hHeld => ?_
   clear hKz Kz
   (try simp only [redA, Act.put])
   refine wr1 11 fun Kz hKz => ?_
   (try simp only [redA])
   go_simp
   go_at_call 14
   refine (l1Below_c (cU B) 9).mono ?_
   rintro e w5 ⟨_, rfl, X5, hc5, x4, rfl, px4, qx4, rx4⟩
   have hz5 := X5.sz
   have E5 : Upd w w5 [g] := X5.up
   have KS5 := KS4.upv X5
   have KR5 := KR4.upv X5
   have Op5 : OwnI M 122 2 w5 (.slice a2 n2 k2) (flPair s.Pairs) := OwnI.drawn (by exact ownT) X5 oM
   have Oj5 : OwnI M 86 5 w5 (.slice a3 n3 k3) (flJob s.Jobs) := OwnI.drawn (by exact ownT) X5 oM
   clear X5
   clear CS4 FS4 LS4 CR4 FR4 LR4
   obtain ⟨CS5, FS5, LS5⟩ := KS5.cfl
   obtain ⟨CR5, FR5, LR5⟩ := KR5.cfl
   refine hKz.o3 fun hHeld => ?_
   clear hKz Kz
   (try simp only [redA, Act.put])
   refine wt 12 ?_
   (try simp only [redA, Act.put])
   refine wt 13 ?_
   (try simp only [redA, Act.put])
   refine wr1 14 fun Kz hKz => ?_
   (try simp only [redA])
   go_simp
   refine hKz.o3 fun hHeld => ?_
   clear hKz Kz
   (try simp only [redA, Act.put])
   refine wpAnyH_done (by kernel_rfl) ?_ _
   go_wp2_with fail
   refine bodyPost_ret (by simp [results, Tryz.results35, go_sem, CS5, FS5, LS5, CR5, FR5, LR5]; try rfl) rfl ?_
   exact ⟨_, rfl, by exact updT, by exact curT, _, _, _, _, _, rfl⟩
 ·
  obtain rfl | rfl := hway
  all_goals
   go_wp2_with fail
   refine (l1Below_c (cU B) 25).mono ?_
   rintro e w2 ⟨_, rfl, X2, hc2, x1, rfl, px1, qx1, rx1⟩
   have hz2 := X2.sz
   have E2 : Upd w w2 [g] := X2.up
   have KS2 := KS1.upv X2
   have KR2 := KR1.upv X2
   have Op2 : OwnI M 122 2 w2 (.slice a2 n2 k2) (flPair s.Pairs) := OwnI.drawn (by exact ownT) X2 oM
   have Oj2 : OwnI M 86 5 w2 (.slice a3 n3 k3) (flJob s.Jobs) := OwnI.drawn (by exact ownT) X2 oM
   clear X2
   clear CS1 FS1 LS1 CR1 FR1 LR1
   obtain ⟨CS2, FS2, LS2⟩ := KS2.cfl
   obtain ⟨CR2, FR2, LR2⟩ := KR2.cfl
   have qx1 := qx1 dC; clear rx1
   go_wp2_with fail
   refine bodyPost_ret (by simp [results, Tryz.results35, go_sem, CS2, FS2, LS2, CR2, FR2, LR2]; try rfl) rfl ?_
   exact ⟨_, rfl, by exact updT, by exact curT, _, _, _, _, _, rfl⟩
 have hb0 : (x0 == 0) = false := by simp; omega
 have hb1 : (x0 == 1) = false := by simp; omega
 have hb2 : (x0 == 2) = false := by simp; omega
 have hb3 : (x0 == 3) = false := by simp; omega
 have hb4 : (x0 == 4) = false := by simp; omega
 have hb5 : (x0 == 5) = false := by simp; omega
 have hb6 : (x0 == 6) = false := by simp; omega
 have hb7 : (x0 == 7) = false := by simp; omega
 have hb8 : (x0 == 8) = false := by simp; omega
 go_wp2_with fail
 go_cut [7] (fun cx0 wx => ∃ gg : Nat, ∃ x1 : Int, cx0 = .pointer (some ⟨gg, 0, none⟩) ∧ w1.heap.size ≤ gg ∧ Blk wx gg 30 #[.int .i64 4, .int .i64 x1, .int .i64 s.Lease.Epoch, .int .i64 0, .int .i64 0] ∧ Upd w wx [g] ∧ Cur B wx g ∧ Blk wx w.heap.size 62 #[.int .i64 s.Index, .int .i64 s.Time, .slice a2 n2 k2, .slice a3 n3 k3, .int .i64 s.Lease.Holder, .int .i64 s.Lease.Epoch, .int .i64 s.Lease.Until] ∧ Blk wx (w.heap.size + 1) 30 #[.int .i64 0, .int .i64 0, .int .i64 0, .int .i64 0, .int .i64 0] ∧ OwnI M 122 2 wx (.slice a2 n2 k2) (flPair s.Pairs) ∧ OwnI M 86 5 wx (.slice a3 n3 k3) (flJob s.Jobs))
 case first =>
  refine wp_region_held_drew (S := fun w' => Upd w w' [g] ∧ Cur B w' g ∧ Blk w' w.heap.size 62 #[.int .i64 s.Index, .int .i64 s.Time, .slice a2 n2 k2, .slice a3 n3 k3, .int .i64 s.Lease.Holder, .int .i64 s.Lease.Epoch, .int .i64 s.Lease.Until]) (by kernel_rfl) (by (try dsimp only); exact ⟨(by exact updT), (by exact curT), bC⟩) (fun hHeld => ?_)
  refine wt 0 ?_
  (try simp only [redA, Act.put])
  refine wt 3 ?_
  (try simp only [redA, Act.put])
  refine wt 4 ?_
  (try simp only [redA, Act.put])
  refine wtq 5 (fun _ h => h.2.2.cell) ?_
  (try simp only [redA, Act.put])
  refine wr2 1 7 (fun Kz hKz => ?_) fun Kz hKz => ?_
  ·
   (try simp only [redA])
   go_simp
   go_at_call 14
   refine (l1Below_c (cU B) 9).mono ?_
   rintro e w2 ⟨_, rfl, X2, hc2, x1, rfl, px1, qx1, rx1⟩
   have hz2 := X2.sz
   have E2 : Upd w w2 [g] := X2.up
   have KS2 := KS1.upv X2
   have KR2 := KR1.upv X2
   have Op2 := OwnI.drawn (ow_en Op1) X2 oM
   have Oj2 := OwnI.drawn (ow_en Oj1) X2 oM
   clear X2
   clear CS1 FS1 LS1 CR1 FR1 LR1
   obtain ⟨CS2, FS2, LS2⟩ := KS2.cfl
   obtain ⟨CR2, FR2, LR2⟩ := KR2.cfl
   refine hKz.o3 fun hHeld => ?_
   clear hKz Kz
   (try simp only [redA, Act.put])
   refine wt 2 ?_
   (try simp only [redA, Act.put])
   refine wt 6 ?_
   (try simp only [redA, Act.put])
   refine wr1 7 fun Kz hKz => ?_
   (try simp only [redA])
   go_simp
   refine hKz.o3 fun hHeld => ?_
   clear hKz Kz
   (try simp only [redA, Act.put])
   refine wr1 8 fun Kz hKz => ?_
   (try simp only [redA])
   go_simp
   refine hKz.o3 fun hHeld => ?_
   clear hKz Kz
   (try simp only [redA, Act.put])
   refine wpAnyH_done (by kernel_rfl) ?_ _
   go_wp2_with fail
   go_meet
   case rel => exact ⟨_, _, (by first | rfl | trivial), (by first | omega | (simp only [World.size_alloc, size_drew]; omega)), bC, (by exact updT), (by exact curT), bC, bC, (ow_ed Op2), (ow_ed Oj2)⟩
  (try simp only [redA])
  go_simp
  refine hKz.o3 fun hHeld => ?_
  clear hKz Kz
  (try simp only [redA, Act.put])
  refine wr1 1 fun Kz hKz => ?_
  (try simp only [redA])
  go_simp
  go_at_call 14
  refine (l1Below_c (cU B) 9).mono ?_
  rintro e w2 ⟨_, rfl, X2, hc2, x1, rfl, px1, qx1, rx1⟩
  have hz2 := X2.sz
  have E2 : Upd w w2 [g] := X2.up
  have KS2 := KS1.upv X2
  have KR2 := KR1.upv X2
  have KL2 : Blk w2 w1.heap.size 30 #[.int .i64 0, .int .i64 0, .int .i64 0, .int .i64 0, .int .i64 0] := bU X2
  have Op2 := OwnI.drawn (ow_en Op1) X2 oM
  have Oj2 := OwnI.drawn (ow_en Oj1) X2 oM
  clear X2
  clear CS1 FS1 LS1 CR1 FR1 LR1
  obtain ⟨CS2, FS2, LS2⟩ := KS2.cfl
  obtain ⟨CR2, FR2, LR2⟩ := KR2.cfl
  obtain ⟨CL2, FL2, LL2⟩ := KL2.cfl
  refine hKz.o3 fun hHeld => ?_
  clear hKz Kz
  (try simp only [redA, Act.put])
  refine wt 2 ?_
  (try simp only [redA, Act.put])
  refine wt 6 ?_
  (try simp only [redA, Act.put])
  refine wr1 8 fun Kz hKz => ?_
  (try simp only [redA])
  go_simp
  refine hKz.o3 fun hHeld => ?_
  clear hKz Kz
  (try simp only [redA, Act.put])
  refine wpAnyH_done (by kernel_rfl) ?_ _
  go_wp2_with fail
  go_meet
  case rel => exact ⟨_, _, (by first | rfl | trivial), (by first | omega | (simp only [World.size_alloc, size_drew]; omega)), bC, (by exact updT), (by exact curT), bC, bC, (ow_edx0 Op2 KL2), (ow_edx0 Oj2 KL2)⟩
 revert wc; intro w2 hcut
 obtain ⟨gg, x1, rfl, hgg, KL2, E2, hc2, KS2, KR2, Op2, Oj2⟩ := hcut
 have hz2 := E2.size
 clear CS1 FS1 LS1 CR1 FR1 LR1
 obtain ⟨CS2, FS2, LS2⟩ := KS2.cfl
 obtain ⟨CR2, FR2, LR2⟩ := KR2.cfl
 obtain ⟨CL2, FL2, LL2⟩ := KL2.cfl
 go_wp2_with fail
 refine (sOpenJobs_k _ _ s.Jobs (OwnI.ints (show OwnI M 86 5 _ _ (flJob s.Jobs) from by exact ownT))).mono ?_
 rintro e w3 ⟨_, rfl, hx3, Od3⟩
 have hz3 := hx3.size; (try simp only [szA] at hz3)
 have E3 : Upd w w3 [g] := Upd.ext (by exact updT) hx3
 have hc3 : Cur B w3 g := Cur.ext (by exact curT) hx3
 have KS3 : Blk w3 w.heap.size 62 #[.int .i64 s.Index, .int .i64 s.Time, .slice a2 n2 k2, .slice a3 n3 k3, .int .i64 s.Lease.Holder, .int .i64 s.Lease.Epoch, .int .i64 s.Lease.Until] := Blk.ext bD hx3
 have KR3 : Blk w3 (w.heap.size + 1) 30 #[.int .i64 0, .int .i64 0, .int .i64 0, .int .i64 0, .int .i64 0] := Blk.ext bD hx3
 have KL3 : Blk w3 gg 30 #[.int .i64 4, .int .i64 x1, .int .i64 s.Lease.Epoch, .int .i64 0, .int .i64 0] := Blk.ext bD hx3
 have Op3 : OwnI M 122 2 w3 (.slice a2 n2 k2) (flPair s.Pairs) := OwnI.ext1 (ow_ex0n Op2 KL2) hx3
 have Oj3 : OwnI M 86 5 w3 (.slice a3 n3 k3) (flJob s.Jobs) := OwnI.ext1 (ow_ex0n Oj2 KL2) hx3
 clear hx3
 clear CS2 FS2 LS2 CR2 FR2 LR2 CL2 FL2 LL2
 obtain ⟨CS3, FS3, LS3⟩ := KS3.cfl
 obtain ⟨CR3, FR3, LR3⟩ := KR3.cfl
 obtain ⟨CL3, FL3, LL3⟩ := KL3.cfl
 obtain ⟨q, hq⟩ : ∃ q, q = openD s.Jobs := ⟨_, rfl⟩
 rw [← hq] at Od3; clear hq
 obtain ⟨ta, tn, tc, rfl, hl0, hcc, hm0, hor⟩ := Own.open_ Od3
 have htn : tn = q.length := by simp only [List.length_map, length_dues] at hl0; omega
 subst htn; clear hl0
 rcases Nat.eq_zero_or_pos q.length with h00 | h00
 ·
  obtain rfl := List.length_eq_zero_iff.1 h00
  go_wp2_with fail
  refine (l1Once_c (cU B) 8).mono ?_
  rintro e w4 ⟨_, rfl, X4, hc4, b8, rfl⟩
  have hz4 := X4.sz
  have E4 : Upd w w4 [g] := X4.up
  have KS4 := KS3.upv X4
  have KR4 := KR3.upv X4
  have KL4 := KL3.upv X4
  have Op4 := OwnI.drawn (ow_ex0n Op3 KL3) X4 oM
  have Oj4 := OwnI.drawn (ow_ex0n Oj3 KL3) X4 oM
  clear X4
  clear CS3 FS3 LS3 CR3 FR3 LR3 CL3 FL3 LL3
  obtain ⟨CS4, FS4, LS4⟩ := KS4.cfl
  obtain ⟨CR4, FR4, LR4⟩ := KR4.cfl
  obtain ⟨CL4, FL4, LL4⟩ := KL4.cfl
  cases b8
  rotate_left
  ·
   go_wp2_with fail
   refine (l1Below_c (cU B) 4).mono ?_
   rintro e w5 ⟨_, rfl, X5, hc5, x9, rfl, px9, qx9, rx9⟩
   have hz5 := X5.sz
   have E5 : Upd w w5 [g] := X5.up
   have KS5 := KS4.upv X5
   have KR5 := KR4.upv X5
   have KL5 := KL4.upv X5
   have Op5 := OwnI.drawn (ow_ex0n Op4 KL4) X5 oM
   have Oj5 := OwnI.drawn (ow_ex0n Oj4 KL4) X5 oM
   clear X5
   clear CS4 FS4 LS4 CR4 FR4 LR4 CL4 FL4 LL4
   obtain ⟨CS5, FS5, LS5⟩ := KS5.cfl
   obtain ⟨CR5, FR5, LR5⟩ := KR5.cfl
   obtain ⟨CL5, FL5, LL5⟩ := KL5.cfl
   have qx9 := qx9 dC; clear rx9
   go_wp2_with fail
   refine bodyPost_ret (by simp [results, Tryz.results35, go_sem, CS5, FS5, LS5, CR5, FR5, LR5, CL5, FL5, LL5]; try rfl) rfl ?_
   exact ⟨_, rfl, by exact updT, by exact curT, _, _, _, _, _, rfl⟩
  go_wp2_with fail
  refine bodyPost_ret (by simp [results, Tryz.results35, go_sem, CS4, FS4, LS4, CR4, FR4, LR4, CL4, FL4, LL4]; try rfl) rfl ?_
  exact ⟨_, rfl, by exact updT, by exact curT, _, _, _, _, _, rfl⟩
 rcases hor with h01 | ⟨X, cur, rfl, hXB, hX, hXs, hXp⟩
 ·
  omega
 have hd : decide (0 < (q.length : Int)) = true := by simp; omega
 go_wp2_with fail
 refine (l1Once_c (cU B) 3).mono ?_
 rintro e w4 ⟨_, rfl, X4, hc4, b3, rfl⟩
 have hz4 := X4.sz
 have E4 : Upd w w4 [g] := X4.up
 have KS4 := KS3.upv X4
 have KR4 := KR3.upv X4
 have KL4 := KL3.upv X4
 have Op4 := OwnI.drawn (ow_ex0n Op3 KL3) X4 oM
 have Oj4 := OwnI.drawn (ow_ex0n Oj3 KL3) X4 oM
 have Od4 : OwnI w2.heap.size 72 2 w4 (.slice (some ⟨X, 0, none⟩) q.length tc) (dues q) := OwnI.drawn (ow_ex0n Od3 KL3) X4 oM
 clear X4
 clear CS3 FS3 LS3 CR3 FR3 LR3 CL3 FL3 LL3
 obtain ⟨CS4, FS4, LS4⟩ := KS4.cfl
 obtain ⟨CR4, FR4, LR4⟩ := KR4.cfl
 obtain ⟨CL4, FL4, LL4⟩ := KL4.cfl
 cases b3
 rotate_left
 ·
  go_wp2_with fail
  refine (l1Once_c (cU B) 8).mono ?_
  rintro e w5 ⟨_, rfl, X5, hc5, b8, rfl⟩
  have hz5 := X5.sz
  have E5 : Upd w w5 [g] := X5.up
  have KS5 := KS4.upv X5
  have KR5 := KR4.upv X5
  have KL5 := KL4.upv X5
  have Op5 := OwnI.drawn (ow_ex0n Op4 KL4) X5 oM
  have Oj5 := OwnI.drawn (ow_ex0n Oj4 KL4) X5 oM
  have Od5 := OwnI.drawn (ow_ex0n Od4 KL4) X5 oM
  clear X5
  clear CS4 FS4 LS4 CR4 FR4 LR4 CL4 FL4 LL4
  obtain ⟨CS5, FS5, LS5⟩ := KS5.cfl
  obtain ⟨CR5, FR5, LR5⟩ := KR5.cfl
  obtain ⟨CL5, FL5, LL5⟩ := KL5.cfl
  cases b8
  rotate_left
  ·
   go_wp2_with fail
   refine (l1Below_c (cU B) 4).mono ?_
   rintro e w6 ⟨_, rfl, X6, hc6, x9, rfl, px9, qx9, rx9⟩
   have hz6 := X6.sz
   have E6 : Upd w w6 [g] := X6.up
   have KS6 := KS5.upv X6
   have KR6 := KR5.upv X6
   have KL6 := KL5.upv X6
   have Op6 := OwnI.drawn (ow_ex0n Op5 KL5) X6 oM
   have Oj6 := OwnI.drawn (ow_ex0n Oj5 KL5) X6 oM
   have Od6 := OwnI.drawn (ow_ex0n Od5 KL5) X6 oM
   clear X6
   clear CS5 FS5 LS5 CR5 FR5 LR5 CL5 FL5 LL5
   obtain ⟨CS6, FS6, LS6⟩ := KS6.cfl
   obtain ⟨CR6, FR6, LR6⟩ := KR6.cfl
   obtain ⟨CL6, FL6, LL6⟩ := KL6.cfl
   have qx9 := qx9 dC; clear rx9
   go_wp2_with fail
   refine bodyPost_ret (by simp [results, Tryz.results35, go_sem, CS6, FS6, LS6, CR6, FR6, LR6, CL6, FL6, LL6]; try rfl) rfl ?_
   exact ⟨_, rfl, by exact updT, by exact curT, _, _, _, _, _, rfl⟩
  go_wp2_with fail
  refine bodyPost_ret (by simp [results, Tryz.results35, go_sem, CS5, FS5, LS5, CR5, FR5, LR5, CL5, FL5, LL5]; try rfl) rfl ?_
  exact ⟨_, rfl, by exact updT, by exact curT, _, _, _, _, _, rfl⟩
 obtain ⟨curd4, KXd4⟩ := Own.typed' Od4 (X := X) rfl
 have FXd4 := KXd4.frozen; have LXd4 := KXd4.lt
 obtain ⟨_, _, hsld, _, _, hrec⟩ := Od4.ints.recs (f := DDue.ints) (fun _ => rfl) dC
 obtain ⟨ddd, bbd, ood, hddd, hbad, _, hccd⟩ := hrec 0 oM
 injection hsld with hs1 hs2 hs3
 rw [← hs1] at hbad; injection hbad with hbad; injection hbad with hb1 hb2; subst hb1; subst hb2; clear hs1 hs2 hs3 hrec
 have hced0 := hccd 0 _ dC rfl; (try simp only [Nat.zero_mul, Nat.zero_add, Nat.add_zero] at hced0)
 clear hccd
 go_wp2_with fail
 refine (l1Once_c (cU B) 8).mono ?_
 rintro e w5 ⟨_, rfl, X5, hc5, b8, rfl⟩
 have hz5 := X5.sz
 have E5 : Upd w w5 [g] := X5.up
 have KS5 := KS4.upv X5
 have KR5 := KR4.upv X5
 have KL5 : Blk w5 gg 30 #[.int .i64 4, .int .i64 ddd.Id, .int .i64 s.Lease.Epoch, .int .i64 0, .int .i64 0] := bU X5
 have Op5 := OwnI.drawn (ow_ex0n Op4 KL4) X5 oM
 have Oj5 := OwnI.drawn (ow_ex0n Oj4 KL4) X5 oM
 have Od5 := OwnI.drawn (ow_ex0n Od4 KL4) X5 oM
 clear X5
 clear CS4 FS4 LS4 CR4 FR4 LR4 CL4 FL4 LL4 FXd4 LXd4 hced0
 obtain ⟨CS5, FS5, LS5⟩ := KS5.cfl
 obtain ⟨CR5, FR5, LR5⟩ := KR5.cfl
 obtain ⟨CL5, FL5, LL5⟩ := KL5.cfl
 cases b8
 rotate_left
 ·
  go_wp2_with fail
  refine (l1Below_c (cU B) 4).mono ?_
  rintro e w6 ⟨_, rfl, X6, hc6, x9, rfl, px9, qx9, rx9⟩
  have hz6 := X6.sz
  have E6 : Upd w w6 [g] := X6.up
  have KS6 := KS5.upv X6
  have KR6 := KR5.upv X6
  have KL6 := KL5.upv X6
  have Op6 := OwnI.drawn (ow_ex0n Op5 KL5) X6 oM
  have Oj6 := OwnI.drawn (ow_ex0n Oj5 KL5) X6 oM
  have Od6 := OwnI.drawn (ow_ex0n Od5 KL5) X6 oM
  clear X6
  clear CS5 FS5 LS5 CR5 FR5 LR5 CL5 FL5 LL5
  obtain ⟨CS6, FS6, LS6⟩ := KS6.cfl
  obtain ⟨CR6, FR6, LR6⟩ := KR6.cfl
  obtain ⟨CL6, FL6, LL6⟩ := KL6.cfl
  have qx9 := qx9 dC; clear rx9
  go_wp2_with fail
  refine bodyPost_ret (by simp [results, Tryz.results35, go_sem, CS6, FS6, LS6, CR6, FR6, LR6, CL6, FL6, LL6]; try rfl) rfl ?_
  exact ⟨_, rfl, by exact updT, by exact curT, _, _, _, _, _, rfl⟩
 go_wp2_with fail
 refine bodyPost_ret (by simp [results, Tryz.results35, go_sem, CS5, FS5, LS5, CR5, FR5, LR5, CL5, FL5, LL5]; try rfl) rfl ?_
 exact ⟨_, rfl, by exact updT, by exact curT, _, _, _, _, _, rfl⟩
theorem drawEntry_c {B : Nat} {w : World} {g : Nat} (h : Cur B w g) {M : Nat} (hM : g < M) {t : Value} {s : DState} (hs : IsState M w t s) : Calls Tryz.prog 78 #[.pointer (some ⟨g, 0, none⟩), t] w (Dr B w g fun v w' => ∃ ei et ec es ok oa ob oc od : Int, v = .agg #[.int .i64 ei, .int .i64 et, .int .i64 ec, .int .i64 es, .int .i64 ok, .int .i64 oa, .int .i64 ob, .int .i64 oc, .int .i64 od]) := by
 obtain ⟨t2, t3, rfl, h2, h3⟩ := hs
 obtain ⟨a2, n2, k2, rfl⟩ := h2.shape
 obtain ⟨a3, n3, k3, rfl⟩ := h3.shape
 have Op0 := h2; have Oj0 := h3; clear h2 h3
 have hc0 := h; have E0 : Upd w w [g] := Upd.refl _ _
 have hg0 := h.lt
 go_enter Tryz.func78, Tryz.ntmps78
 go_wp2_with fail
 refine (l1Below_c (cU B) 4).mono ?_
 rintro e w1 ⟨_, rfl, X1, hc1, x1, rfl, px1, qx1, rx1⟩
 have hz1 := X1.sz
 have E1 : Upd w w1 [g] := X1.up
 have KS1 : Blk w1 w.heap.size 62 #[.int .i64 s.Index, .int .i64 s.Time, .slice a2 n2 k2, .slice a3 n3 k3, .int .i64 s.Lease.Holder, .int .i64 s.Lease.Epoch, .int .i64 s.Lease.Until] := bU X1
 have KR1 : Blk w1 (w.heap.size + 1) 95 #[.int .i64 0, .int .i64 0, .int .i64 0, .int .i64 0, .int .i64 0, .int .i64 0, .int .i64 0, .int .i64 0, .int .i64 0] := bU X1
 have Op1 : OwnI M 122 2 w1 (.slice a2 n2 k2) (flPair s.Pairs) := OwnI.drawn (by exact ownT) X1 oM
 have Oj1 : OwnI M 86 5 w1 (.slice a3 n3 k3) (flJob s.Jobs) := OwnI.drawn (by exact ownT) X1 oM
 clear X1
 obtain ⟨CS1, FS1, LS1⟩ := KS1.cfl
 obtain ⟨CR1, FR1, LR1⟩ := KR1.cfl
 have qx1 := qx1 dC; clear rx1
 go_wp2_with fail
 refine (drawOp_c (cU B) hM (s := s) ⟨_, _, rfl, (by exact ownT), (by exact ownT)⟩ _).mono ?_
 rintro e w2 ⟨_, rfl, X2, hc2, v0, v1, v2, v3, v4, rfl⟩
 have hz2 := X2.sz
 have E2 : Upd w w2 [g] := X2.up
 have KS2 := KS1.upv X2
 have KR2 := KR1.upv X2
 have Op2 : OwnI M 122 2 w2 (.slice a2 n2 k2) (flPair s.Pairs) := OwnI.drawn (by exact ownT) X2 oM
 have Oj2 : OwnI M 86 5 w2 (.slice a3 n3 k3) (flJob s.Jobs) := OwnI.drawn (by exact ownT) X2 oM
 clear X2
 clear CS1 FS1 LS1 CR1 FR1 LR1
 obtain ⟨CS2, FS2, LS2⟩ := KS2.cfl
 obtain ⟨CR2, FR2, LR2⟩ := KR2.cfl
 go_upto_region 3 with (fail)
 go_cut [26] (fun cx0 wx => ∃ b1 : Bool, cx0 = .bool b1 ∧ Upd w wx [g] ∧ Cur B wx g ∧ Blk wx w.heap.size 62 #[.int .i64 s.Index, .int .i64 s.Time, .slice a2 n2 k2, .slice a3 n3 k3, .int .i64 s.Lease.Holder, .int .i64 s.Lease.Epoch, .int .i64 s.Lease.Until] ∧ Blk wx (w.heap.size + 1) 95 #[.int .i64 0, .int .i64 0, .int .i64 0, .int .i64 0, .int .i64 0, .int .i64 0, .int .i64 0, .int .i64 0, .int .i64 0] ∧ Blk wx w2.heap.size 30 #[.int .i64 v0, .int .i64 v1, .int .i64 v2, .int .i64 v3, .int .i64 v4] ∧ OwnI M 122 2 wx (.slice a2 n2 k2) (flPair s.Pairs) ∧ OwnI M 86 5 wx (.slice a3 n3 k3) (flJob s.Jobs))
 case first =>
  obtain rfl | rfl | ⟨hk4, hk5⟩ : v0 = 4 ∨ v0 = 5 ∨ (v0 ≠ 4 ∧ v0 ≠ 5) := by omega
  ·
   go_wp2_with fail
   refine (l1Once_c (cU B) 2).mono ?_
   rintro e w3 ⟨_, rfl, X3, hc3, b, rfl⟩
   have hz3 := X3.sz
   have E3 : Upd w w3 [g] := X3.up
   have KS3 := KS2.upv X3
   have KR3 := KR2.upv X3
   have KO3 : Blk w3 w2.heap.size 30 #[.int .i64 4, .int .i64 v1, .int .i64 v2, .int .i64 v3, .int .i64 v4] := bU X3
   have Op3 : OwnI M 122 2 w3 (.slice a2 n2 k2) (flPair s.Pairs) := OwnI.drawn (by exact ownT) X3 oM
   have Oj3 : OwnI M 86 5 w3 (.slice a3 n3 k3) (flJob s.Jobs) := OwnI.drawn (by exact ownT) X3 oM
   clear X3
   clear CS2 FS2 LS2 CR2 FR2 LR2
   obtain ⟨CS3, FS3, LS3⟩ := KS3.cfl
   obtain ⟨CR3, FR3, LR3⟩ := KR3.cfl
   obtain ⟨CO3, FO3, LO3⟩ := KO3.cfl
   go_wp2_with fail
   go_meet
   case rel => exact ⟨_, (by first | rfl | trivial), (by exact updT), (by exact curT), bC, bC, bC, (ow_ed Op3), (ow_ed Oj3)⟩
  ·
   go_wp2_with fail
   refine (l1Once_c (cU B) 2).mono ?_
   rintro e w3 ⟨_, rfl, X3, hc3, b, rfl⟩
   have hz3 := X3.sz
   have E3 : Upd w w3 [g] := X3.up
   have KS3 := KS2.upv X3
   have KR3 := KR2.upv X3
   have KO3 : Blk w3 w2.heap.size 30 #[.int .i64 5, .int .i64 v1, .int .i64 v2, .int .i64 v3, .int .i64 v4] := bU X3
   have Op3 : OwnI M 122 2 w3 (.slice a2 n2 k2) (flPair s.Pairs) := OwnI.drawn (by exact ownT) X3 oM
   have Oj3 : OwnI M 86 5 w3 (.slice a3 n3 k3) (flJob s.Jobs) := OwnI.drawn (by exact ownT) X3 oM
   clear X3
   clear CS2 FS2 LS2 CR2 FR2 LR2
   obtain ⟨CS3, FS3, LS3⟩ := KS3.cfl
   obtain ⟨CR3, FR3, LR3⟩ := KR3.cfl
   obtain ⟨CO3, FO3, LO3⟩ := KO3.cfl
   go_wp2_with fail
   go_meet
   case rel => exact ⟨_, (by first | rfl | trivial), (by exact updT), (by exact curT), bC, bC, bC, (ow_ed Op3), (ow_ed Oj3)⟩
  have hq4 : (v0 == 4) = false := by simp [hk4]
  have hq5 : (v0 == 5) = false := by simp [hk5]
  go_wp2_with fail
  go_meet
  case rel => exact ⟨_, (by first | rfl | trivial), (by exact updT), (by exact curT), bC, bC, bC, (ow_ed Op2), (ow_ed Oj2)⟩
 revert wc; intro w3 hcut
 obtain ⟨b1, rfl, E3, hc3, KS3, KR3, KO3, Op3, Oj3⟩ := hcut
 have hz3 := E3.size
 clear CS2 FS2 LS2 CR2 FR2 LR2
 obtain ⟨CS3, FS3, LS3⟩ := KS3.cfl
 obtain ⟨CR3, FR3, LR3⟩ := KR3.cfl
 obtain ⟨CO3, FO3, LO3⟩ := KO3.cfl
 go_upto_if 26 with (fail)
 go_cut [5] (fun cx0 wx => ∃ cl : Int, cx0 = .int .i64 cl ∧ Upd w wx [g] ∧ Cur B wx g ∧ Blk wx w.heap.size 62 #[.int .i64 s.Index, .int .i64 s.Time, .slice a2 n2 k2, .slice a3 n3 k3, .int .i64 s.Lease.Holder, .int .i64 s.Lease.Epoch, .int .i64 s.Lease.Until] ∧ Blk wx (w.heap.size + 1) 95 #[.int .i64 0, .int .i64 0, .int .i64 0, .int .i64 0, .int .i64 0, .int .i64 0, .int .i64 0, .int .i64 0, .int .i64 0] ∧ Blk wx w2.heap.size 30 #[.int .i64 v0, .int .i64 v1, .int .i64 v2, .int .i64 v3, .int .i64 v4] ∧ OwnI M 122 2 wx (.slice a2 n2 k2) (flPair s.Pairs) ∧ OwnI M 86 5 wx (.slice a3 n3 k3) (flJob s.Jobs))
 case first =>
  cases b1
  rotate_left
  ·
   go_wp2_with fail
   refine (l1Below_c (cU B) 2).mono ?_
   rintro e w4 ⟨_, rfl, X4, hc4, y, rfl, py, qy, ry⟩
   have hz4 := X4.sz
   have E4 : Upd w w4 [g] := X4.up
   have KS4 : Blk w4 w.heap.size 62 #[.int .i64 s.Index, .int .i64 s.Time, .slice a2 n2 k2, .slice a3 n3 k3, .int .i64 s.Lease.Holder, .int .i64 s.Lease.Epoch, .int .i64 s.Lease.Until] := bU X4
   have KR4 : Blk w4 (w.heap.size + 1) 95 #[.int .i64 0, .int .i64 0, .int .i64 0, .int .i64 0, .int .i64 0, .int .i64 0, .int .i64 0, .int .i64 0, .int .i64 0] := bU X4
   have KO4 : Blk w4 w2.heap.size 30 #[.int .i64 v0, .int .i64 v1, .int .i64 v2, .int .i64 v3, .int .i64 v4] := bU X4
   have Op4 : OwnI M 122 2 w4 (.slice a2 n2 k2) (flPair s.Pairs) := OwnI.drawn (by exact ownT) X4 oM
   have Oj4 : OwnI M 86 5 w4 (.slice a3 n3 k3) (flJob s.Jobs) := OwnI.drawn (by exact ownT) X4 oM
   clear X4
   clear CS3 FS3 LS3 CR3 FR3 LR3 CO3 FO3 LO3
   obtain ⟨CS4, FS4, LS4⟩ := KS4.cfl
   obtain ⟨CR4, FR4, LR4⟩ := KR4.cfl
   obtain ⟨CO4, FO4, LO4⟩ := KO4.cfl
   have qy := qy dC; clear ry
   go_wp2_with fail
   go_meet
   case rel => exact ⟨_, (by first | rfl | trivial), (by exact updT), (by exact curT), bC, bC, bC, (ow_ed Op4), (ow_ed Oj4)⟩
  go_wp2_with fail
  go_meet
  case rel => exact ⟨_, (by first | rfl | trivial), (by exact updT), (by exact curT), bC, bC, bC, (ow_ed Op3), (ow_ed Oj3)⟩
 revert wc; intro w4 hcut
 obtain ⟨cl, rfl, E4, hc4, KS4, KR4, KO4, Op4, Oj4⟩ := hcut
 have hz4 := E4.size
 clear CS3 FS3 LS3 CR3 FR3 LR3 CO3 FO3 LO3
 obtain ⟨CS4, FS4, LS4⟩ := KS4.cfl
 obtain ⟨CR4, FR4, LR4⟩ := KR4.cfl
 obtain ⟨CO4, FO4, LO4⟩ := KO4.cfl
 go_upto_region 5 with (fail)
 go_cut [43] (fun cx0 wx => ∃ b2 : Bool, cx0 = .bool b2 ∧ Upd w wx [g] ∧ Cur B wx g ∧ Blk wx w.heap.size 62 #[.int .i64 s.Index, .int .i64 s.Time, .slice a2 n2 k2, .slice a3 n3 k3, .int .i64 s.Lease.Holder, .int .i64 s.Lease.Epoch, .int .i64 s.Lease.Until] ∧ Blk wx (w.heap.size + 1) 95 #[.int .i64 0, .int .i64 0, .int .i64 0, .int .i64 0, .int .i64 0, .int .i64 0, .int .i64 0, .int .i64 0, .int .i64 0] ∧ Blk wx w2.heap.size 30 #[.int .i64 v0, .int .i64 v1, .int .i64 v2, .int .i64 v3, .int .i64 v4] ∧ OwnI M 122 2 wx (.slice a2 n2 k2) (flPair s.Pairs) ∧ OwnI M 86 5 wx (.slice a3 n3 k3) (flJob s.Jobs))
 case first =>
  by_cases hk4 : v0 = 4
  ·
   subst hk4
   by_cases hh : 0 < s.Lease.Holder
   ·
    go_wp2_with fail
    refine (l1Once_c (cU B) 4).mono ?_
    rintro e w5 ⟨_, rfl, X5, hc5, b, rfl⟩
    have hz5 := X5.sz
    have E5 : Upd w w5 [g] := X5.up
    have KS5 : Blk w5 w.heap.size 62 #[.int .i64 s.Index, .int .i64 s.Time, .slice a2 n2 k2, .slice a3 n3 k3, .int .i64 s.Lease.Holder, .int .i64 s.Lease.Epoch, .int .i64 s.Lease.Until] := bU X5
    have KR5 : Blk w5 (w.heap.size + 1) 95 #[.int .i64 0, .int .i64 0, .int .i64 0, .int .i64 0, .int .i64 0, .int .i64 0, .int .i64 0, .int .i64 0, .int .i64 0] := bU X5
    have KO5 : Blk w5 w2.heap.size 30 #[.int .i64 4, .int .i64 v1, .int .i64 v2, .int .i64 v3, .int .i64 v4] := bU X5
    have Op5 : OwnI M 122 2 w5 (.slice a2 n2 k2) (flPair s.Pairs) := OwnI.drawn (by exact ownT) X5 oM
    have Oj5 : OwnI M 86 5 w5 (.slice a3 n3 k3) (flJob s.Jobs) := OwnI.drawn (by exact ownT) X5 oM
    clear X5
    clear CS4 FS4 LS4 CR4 FR4 LR4 CO4 FO4 LO4
    obtain ⟨CS5, FS5, LS5⟩ := KS5.cfl
    obtain ⟨CR5, FR5, LR5⟩ := KR5.cfl
    obtain ⟨CO5, FO5, LO5⟩ := KO5.cfl
    go_wp2_with fail
    go_meet
    case rel => exact ⟨_, (by first | rfl | trivial), (by exact updT), (by exact curT), bC, bC, bC, (ow_ed Op5), (ow_ed Oj5)⟩
   go_wp2_with fail
   go_meet
   case rel => exact ⟨_, (by first | rfl | trivial), (by exact updT), (by exact curT), bC, bC, bC, (ow_ed Op4), (ow_ed Oj4)⟩
  have hq4 : (v0 == 4) = false := by simp [hk4]
  go_wp2_with fail
  go_meet
  case rel => exact ⟨_, (by first | rfl | trivial), (by exact updT), (by exact curT), bC, bC, bC, (ow_ed Op4), (ow_ed Oj4)⟩
 revert wc; intro w5 hcut
 obtain ⟨b2, rfl, E5, hc5, KS5, KR5, KO5, Op5, Oj5⟩ := hcut
 have hz5 := E5.size
 clear CS4 FS4 LS4 CR4 FR4 LR4 CO4 FO4 LO4
 obtain ⟨CS5, FS5, LS5⟩ := KS5.cfl
 obtain ⟨CR5, FR5, LR5⟩ := KR5.cfl
 obtain ⟨CO5, FO5, LO5⟩ := KO5.cfl
 go_upto_if 43 with (fail)
 go_cut [5] (fun cx0 wx => ∃ cl2 : Int, cx0 = .int .i64 cl2 ∧ Upd w wx [g] ∧ Cur B wx g ∧ Blk wx w.heap.size 62 #[.int .i64 s.Index, .int .i64 s.Time, .slice a2 n2 k2, .slice a3 n3 k3, .int .i64 s.Lease.Holder, .int .i64 s.Lease.Epoch, .int .i64 s.Lease.Until] ∧ Blk wx (w.heap.size + 1) 95 #[.int .i64 0, .int .i64 0, .int .i64 0, .int .i64 0, .int .i64 0, .int .i64 0, .int .i64 0, .int .i64 0, .int .i64 0] ∧ Blk wx w2.heap.size 30 #[.int .i64 v0, .int .i64 v1, .int .i64 v2, .int .i64 v3, .int .i64 v4] ∧ OwnI M 122 2 wx (.slice a2 n2 k2) (flPair s.Pairs) ∧ OwnI M 86 5 wx (.slice a3 n3 k3) (flJob s.Jobs))
 case first =>
  cases b2
  rotate_left
  ·
   go_wp2_with fail
   go_meet
   case rel => exact ⟨_, (by first | rfl | trivial), (by exact updT), (by exact curT), bC, bC, bC, (ow_ed Op5), (ow_ed Oj5)⟩
  go_wp2_with fail
  go_meet
  case rel => exact ⟨_, (by first | rfl | trivial), (by exact updT), (by exact curT), bC, bC, bC, (ow_ed Op5), (ow_ed Oj5)⟩
 revert wc; intro w6 hcut
 obtain ⟨cl2, rfl, E6, hc6, KS6, KR6, KO6, Op6, Oj6⟩ := hcut
 have hz6 := E6.size
 clear CS5 FS5 LS5 CR5 FR5 LR5 CO5 FO5 LO5
 obtain ⟨CS6, FS6, LS6⟩ := KS6.cfl
 obtain ⟨CR6, FR6, LR6⟩ := KR6.cfl
 obtain ⟨CO6, FO6, LO6⟩ := KO6.cfl
 go_upto_region 7 with (fail)
 go_cut [7] (fun cx0 wx => ∃ tm : Int, cx0 = .int .i64 tm ∧ Upd w wx [g] ∧ Cur B wx g ∧ Blk wx w.heap.size 62 #[.int .i64 s.Index, .int .i64 s.Time, .slice a2 n2 k2, .slice a3 n3 k3, .int .i64 s.Lease.Holder, .int .i64 s.Lease.Epoch, .int .i64 s.Lease.Until] ∧ Blk wx (w.heap.size + 1) 95 #[.int .i64 0, .int .i64 0, .int .i64 0, .int .i64 0, .int .i64 0, .int .i64 0, .int .i64 0, .int .i64 0, .int .i64 0] ∧ Blk wx w2.heap.size 30 #[.int .i64 v0, .int .i64 v1, .int .i64 v2, .int .i64 v3, .int .i64 v4] ∧ OwnI M 122 2 wx (.slice a2 n2 k2) (flPair s.Pairs) ∧ OwnI M 86 5 wx (.slice a3 n3 k3) (flJob s.Jobs))
 case first =>
  refine wp_region_held_drew (S := fun w' => Upd w w' [g] ∧ Cur B w' g ∧ Blk w' w.heap.size 62 #[.int .i64 s.Index, .int .i64 s.Time, .slice a2 n2 k2, .slice a3 n3 k3, .int .i64 s.Lease.Holder, .int .i64 s.Lease.Epoch, .int .i64 s.Lease.Until]) (by kernel_rfl) (by (try dsimp only); exact ⟨(by exact updT), (by exact curT), bC⟩) (fun hHeld => ?_)
  refine wt 0 ?_
  (try simp only [redA, Act.put])
  refine wtq 1 (fun _ h => h.2.2.cell) ?_
  (try simp only [redA, Act.put])
  refine wt 2 ?_
  (try simp only [redA, Act.put])
  refine wr1 3 fun Kz hKz => ?_
  (try simp only [redA])
  go_simp
  go_at_call 14
  refine (l1Below_c (cU B) 6).mono ?_
  rintro e w7 ⟨_, rfl, X7, hc7, z, rfl, pz, qz, rz⟩
  have hz7 := X7.sz
  have E7 : Upd w w7 [g] := X7.up
  have KS7 : Blk w7 w.heap.size 62 #[.int .i64 s.Index, .int .i64 s.Time, .slice a2 n2 k2, .slice a3 n3 k3, .int .i64 s.Lease.Holder, .int .i64 s.Lease.Epoch, .int .i64 s.Lease.Until] := bU X7
  have KR7 : Blk w7 (w.heap.size + 1) 95 #[.int .i64 0, .int .i64 0, .int .i64 0, .int .i64 0, .int .i64 0, .int .i64 0, .int .i64 0, .int .i64 0, .int .i64 0] := bU X7
  have KO7 : Blk w7 w2.heap.size 30 #[.int .i64 v0, .int .i64 v1, .int .i64 v2, .int .i64 v3, .int .i64 v4] := bU X7
  have Op7 : OwnI M 122 2 w7 (.slice a2 n2 k2) (flPair s.Pairs) := OwnI.drawn (by exact ownT) X7 oM
  have Oj7 : OwnI M 86 5 w7 (.slice a3 n3 k3) (flJob s.Jobs) := OwnI.drawn (by exact ownT) X7 oM
  clear X7
  clear CS6 FS6 LS6 CR6 FR6 LR6 CO6 FO6 LO6
  obtain ⟨CS7, FS7, LS7⟩ := KS7.cfl
  obtain ⟨CR7, FR7, LR7⟩ := KR7.cfl
  obtain ⟨CO7, FO7, LO7⟩ := KO7.cfl
  refine hKz.o3 fun hHeld => ?_
  clear hKz Kz
  (try simp only [redA, Act.put])
  refine wt 4 ?_
  (try simp only [redA, Act.put])
  refine wr1 5 fun Kz hKz => ?_
  (try simp only [redA])
  go_simp
  refine hKz.o3 fun hHeld => ?_
  clear hKz Kz
  (try simp only [redA, Act.put])
  refine wpAnyH_done (by kernel_rfl) ?_ _
  go_wp2_with fail
  go_meet
  case rel => exact ⟨_, (by first | rfl | trivial), (by exact updT), (by exact curT), bC, bC, bC, (ow_ed Op7), (ow_ed Oj7)⟩
 revert wc; intro w7 hcut
 obtain ⟨tm, rfl, E7, hc7, KS7, KR7, KO7, Op7, Oj7⟩ := hcut
 have hz7 := E7.size
 clear CS6 FS6 LS6 CR6 FR6 LR6 CO6 FO6 LO6
 obtain ⟨CS7, FS7, LS7⟩ := KS7.cfl
 obtain ⟨CR7, FR7, LR7⟩ := KR7.cfl
 obtain ⟨CO7, FO7, LO7⟩ := KO7.cfl
 go_wp2_with fail
 refine (l1Once_c (cU B) 10).mono ?_
 rintro e w8 ⟨_, rfl, X8, hc8, b3, rfl⟩
 have hz8 := X8.sz
 have E8 : Upd w w8 [g] := X8.up
 have KS8 : Blk w8 w.heap.size 62 #[.int .i64 s.Index, .int .i64 s.Time, .slice a2 n2 k2, .slice a3 n3 k3, .int .i64 s.Lease.Holder, .int .i64 s.Lease.Epoch, .int .i64 s.Lease.Until] := bU X8
 have KR8 : Blk w8 (w.heap.size + 1) 95 #[.int .i64 0, .int .i64 0, .int .i64 0, .int .i64 0, .int .i64 0, .int .i64 0, .int .i64 0, .int .i64 0, .int .i64 0] := bU X8
 have KO8 : Blk w8 w2.heap.size 30 #[.int .i64 v0, .int .i64 v1, .int .i64 v2, .int .i64 v3, .int .i64 v4] := bU X8
 have Op8 : OwnI M 122 2 w8 (.slice a2 n2 k2) (flPair s.Pairs) := OwnI.drawn (by exact ownT) X8 oM
 have Oj8 : OwnI M 86 5 w8 (.slice a3 n3 k3) (flJob s.Jobs) := OwnI.drawn (by exact ownT) X8 oM
 clear X8
 clear CS7 FS7 LS7 CR7 FR7 LR7 CO7 FO7 LO7
 obtain ⟨CS8, FS8, LS8⟩ := KS8.cfl
 obtain ⟨CR8, FR8, LR8⟩ := KR8.cfl
 obtain ⟨CO8, FO8, LO8⟩ := KO8.cfl
 go_upto_if 53 with (fail)
 go_cut [7] (fun cx0 wx => ∃ tm2 : Int, cx0 = .int .i64 tm2 ∧ Upd w wx [g] ∧ Cur B wx g ∧ Blk wx w.heap.size 62 #[.int .i64 s.Index, .int .i64 s.Time, .slice a2 n2 k2, .slice a3 n3 k3, .int .i64 s.Lease.Holder, .int .i64 s.Lease.Epoch, .int .i64 s.Lease.Until] ∧ Blk wx (w.heap.size + 1) 95 #[.int .i64 0, .int .i64 0, .int .i64 0, .int .i64 0, .int .i64 0, .int .i64 0, .int .i64 0, .int .i64 0, .int .i64 0] ∧ Blk wx w2.heap.size 30 #[.int .i64 v0, .int .i64 v1, .int .i64 v2, .int .i64 v3, .int .i64 v4] ∧ OwnI M 122 2 wx (.slice a2 n2 k2) (flPair s.Pairs) ∧ OwnI M 86 5 wx (.slice a3 n3 k3) (flJob s.Jobs))
 case first =>
  cases b3
  rotate_left
  ·
   go_wp2_with fail
   go_meet
   case rel => exact ⟨_, (by first | rfl | trivial), (by exact updT), (by exact curT), bC, bC, bC, (ow_ed Op8), (ow_ed Oj8)⟩
  go_wp2_with fail
  go_meet
  case rel => exact ⟨_, (by first | rfl | trivial), (by exact updT), (by exact curT), bC, bC, bC, (ow_ed Op8), (ow_ed Oj8)⟩
 revert wc; intro w9 hcut
 obtain ⟨tm2, rfl, E9, hc9, KS9, KR9, KO9, Op9, Oj9⟩ := hcut
 have hz9 := E9.size
 clear CS8 FS8 LS8 CR8 FR8 LR8 CO8 FO8 LO8
 obtain ⟨CS9, FS9, LS9⟩ := KS9.cfl
 obtain ⟨CR9, FR9, LR9⟩ := KR9.cfl
 obtain ⟨CO9, FO9, LO9⟩ := KO9.cfl
 go_upto_region 10 with (fail)
 refine wp_region_held_drew (S := fun w' => Upd w w' [g] ∧ Cur B w' g ∧ Blk w' w.heap.size 62 #[.int .i64 s.Index, .int .i64 s.Time, .slice a2 n2 k2, .slice a3 n3 k3, .int .i64 s.Lease.Holder, .int .i64 s.Lease.Epoch, .int .i64 s.Lease.Until] ∧ Blk w' w2.heap.size 30 #[.int .i64 v0, .int .i64 v1, .int .i64 v2, .int .i64 v3, .int .i64 v4]) (by kernel_rfl) (by (try dsimp only); exact ⟨(by exact updT), (by exact curT), bC, bC⟩) (fun hHeld => ?_)
 refine wt 0 ?_
 (try simp only [redA, Act.put])
 refine wtq 1 (fun _ h => h.2.2.1.cell) ?_
 (try simp only [redA, Act.put])
 refine wt 2 ?_
 (try simp only [redA, Act.put])
 refine wt 3 ?_
 (try simp only [redA, Act.put])
 refine wt 5 ?_
 (try simp only [redA, Act.put])
 refine wt 6 ?_
 (try simp only [redA, Act.put])
 refine wtq 9 (fun _ h => h.2.2.2.cell) ?_
 (try simp only [redA, Act.put])
 refine wr1 4 fun Kz hKz => ?_
 (try simp only [redA])
 go_simp
 go_at_call 38
 refine (l1Min_c _ _).mono ?_
 rintro e w9 ⟨rfl, rfl⟩
 refine hKz.o4 fun hHeld => ?_
 clear hKz Kz
 (try simp only [redA, Act.put])
 refine wr1 7 fun Kz hKz => ?_
 (try simp only [redA])
 go_simp
 go_at_call 14
 refine (l1Below_c (cU B) 40).mono ?_
 rintro e w10 ⟨_, rfl, X10, hc10, z, rfl, pz, qz, rz⟩
 have hz10 := X10.sz
 have E10 : Upd w w10 [g] := X10.up
 have KS10 : Blk w10 w.heap.size 62 #[.int .i64 s.Index, .int .i64 s.Time, .slice a2 n2 k2, .slice a3 n3 k3, .int .i64 s.Lease.Holder, .int .i64 s.Lease.Epoch, .int .i64 s.Lease.Until] := bU X10
 have KR10 : Blk w10 (w.heap.size + 1) 95 #[.int .i64 0, .int .i64 0, .int .i64 0, .int .i64 0, .int .i64 0, .int .i64 0, .int .i64 0, .int .i64 0, .int .i64 0] := bU X10
 have KO10 : Blk w10 w2.heap.size 30 #[.int .i64 v0, .int .i64 v1, .int .i64 v2, .int .i64 v3, .int .i64 v4] := bU X10
 have Op10 : OwnI M 122 2 w10 (.slice a2 n2 k2) (flPair s.Pairs) := OwnI.drawn (by exact ownT) X10 oM
 have Oj10 : OwnI M 86 5 w10 (.slice a3 n3 k3) (flJob s.Jobs) := OwnI.drawn (by exact ownT) X10 oM
 clear X10
 clear CS9 FS9 LS9 CR9 FR9 LR9 CO9 FO9 LO9
 obtain ⟨CS10, FS10, LS10⟩ := KS10.cfl
 obtain ⟨CR10, FR10, LR10⟩ := KR10.cfl
 obtain ⟨CO10, FO10, LO10⟩ := KO10.cfl
 refine hKz.o4 fun hHeld => ?_
 clear hKz Kz
 (try simp only [redA, Act.put])
 refine wt 8 ?_
 (try simp only [redA, Act.put])
 refine wr1 10 fun Kz hKz => ?_
 (try simp only [redA])
 go_simp
 go_at_call 81
 refine (capOp_c _ v0 v1 v2 v3 v4).mono ?_
 rintro e w11 ⟨_, rfl, hx11, z0, z1, z2, z3, z4, rfl⟩
 have hz11 := hx11.size; (try simp only [szA] at hz11)
 have E11 : Upd w w11 [g] := Upd.ext (by exact updT) hx11
 have hc11 : Cur B w11 g := Cur.ext (by exact curT) hx11
 have KS11 := KS10.exv hx11
 have KR11 := KR10.exv hx11
 have KO11 := KO10.exv hx11
 have Op11 : OwnI M 122 2 w11 (.slice a2 n2 k2) (flPair s.Pairs) := OwnI.ext1 (by exact ownT) hx11
 have Oj11 : OwnI M 86 5 w11 (.slice a3 n3 k3) (flJob s.Jobs) := OwnI.ext1 (by exact ownT) hx11
 clear hx11
 clear CS10 FS10 LS10 CR10 FR10 LR10 CO10 FO10 LO10
 obtain ⟨CS11, FS11, LS11⟩ := KS11.cfl
 obtain ⟨CR11, FR11, LR11⟩ := KR11.cfl
 obtain ⟨CO11, FO11, LO11⟩ := KO11.cfl
 refine hKz.o4 fun hHeld => ?_
 clear hKz Kz
 (try simp only [redA, Act.put])
 refine wt 11 ?_
 (try simp only [redA, Act.put])
 refine wr1 12 fun Kz hKz => ?_
 (try simp only [redA])
 go_simp
 refine hKz.o4 fun hHeld => ?_
 clear hKz Kz
 (try simp only [redA, Act.put])
 refine wpAnyH_done (by kernel_rfl) ?_ _
 go_wp2_with fail
 refine bodyPost_ret (by simp [results, Tryz.results78, go_sem, CS11, FS11, LS11, CR11, FR11, LR11, CO11, FO11, LO11]; try rfl) rfl ?_
 exact ⟨_, rfl, by exact updT, by exact curT, _, _, _, _, _, _, _, _, _, rfl⟩
theorem OwnI.lit2 (w : World) (a b : Obj) (e : TypeId) (n : Nat) : OwnI w.heap.size e n (((w.alloc a).alloc b).alloc (.cells #[] e)) (.slice (some ⟨w.heap.size + 1 + 1, 0, none⟩) 0 0) [] := by
 have := OwnI.lit0 ((w.alloc a).alloc b) e n
 simp only [World.size_alloc] at this
 exact this.mono oM
theorem sNewState_c (w : World) : Calls Tryz.prog 74 #[] w (RetV w (.agg #[.int .i64 0, .int .i64 0, .slice none 0 0, .slice none 0 0, .int .i64 0, .int .i64 0, .int .i64 0])) := by
 go_enter Tryz.func74, Tryz.ntmps74
 go_wp2_with fail
 refine bodyPost_ret (by simp [results, Tryz.results74, go_sem]; try rfl) rfl ?_
 exact ⟨rfl, xT⟩
theorem drawEntries_c {B : Nat} {w : World} {g : Nat} (h : Cur B w g) {M : Nat} (hM : g < M) {t : Value} {s : DState} (hs : IsState M w t s) (hMw : M ≤ w.heap.size) (N : Nat) (hN : N ≤ 64) : Calls Tryz.prog 73 #[.pointer (some ⟨g, 0, none⟩), t, .int .i64 N] w (Dr B w g fun v w' => ∃ u x l s', v = .tuple #[u, x] ∧ OwnI w.heap.size 95 9 w' u (flEntry l) ∧ l.length ≤ N ∧ IsState M w' x s' ∧ (stateOk s = true → stateOk s' = true)) := by
 obtain ⟨i0, hi, hy0, hy1, hy2⟩ := info_parts info_Entry
 obtain ⟨t2, t3, rfl, h2, h3⟩ := hs
 obtain ⟨a2, n2, k2, rfl⟩ := h2.shape
 obtain ⟨a3, n3, k3, rfl⟩ := h3.shape
 have Op0 := h2; have Oj0 := h3; clear h2 h3
 have hc0 := h; have E0 : Upd w w [g] := Upd.refl _ _
 have hg0 := h.lt
 go_enter Tryz.func73, Tryz.ntmps73
 go_wp2_with fail
 go_loopw [2, 8] (fun kk out wr => ∃ (k : Nat) (l : List DEntry) (s' : DState) (b2 : Option Addr) (m2 c2 : Nat) (b3 : Option Addr) (m3 c3 : Nat), k ≤ N ∧ kk = .int .i64 k ∧ l.length + k ≤ N ∧ (stateOk s = true → stateOk s' = true) ∧ Upd w wr [g] ∧ Cur B wr g ∧ OwnI w.heap.size 95 9 wr out (flEntry l) ∧ Blk wr w.heap.size 62 #[.int .i64 s'.Index, .int .i64 s'.Time, .slice b2 m2 c2, .slice b3 m3 c3, .int .i64 s'.Lease.Holder, .int .i64 s'.Lease.Epoch, .int .i64 s'.Lease.Until] ∧ Blk wr (w.heap.size + 1) 62 #[.int .i64 0, .int .i64 0, .slice none 0 0, .slice none 0 0, .int .i64 0, .int .i64 0, .int .i64 0] ∧ OwnI M 122 2 wr (.slice b2 m2 c2) (flPair s'.Pairs) ∧ OwnI M 86 5 wr (.slice b3 m3 c3) (flJob s'.Jobs)) (fun kk _ _ => (intOf kk).toNat)
 case atStart => exact ⟨N, [], s, a2, n2, k2, a3, n3, k3, Nat.le_refl _, rfl, by simp, fun h => h, by exact updT, by exact curT, OwnI.lit2 w _ _ _ _, Blk.cast (by exact blkT) (by first | rfl | simp), Blk.cast (by exact blkT) (by first | rfl | simp), by exact ownT, by exact ownT⟩
 case round =>
  obtain ⟨k, l, s', b2, m2, c2, b3, m3, c3, hk, rfl, hl, hok, E1, hc1, Ol1, KS1, KZ1, Op1, Oj1⟩ := hrel
  clear Op0 Oj0
  obtain ⟨a0, n0, c0, rfl⟩ := Ol1.shape
  obtain ⟨w1, hw⟩ : ∃ w1, w1 = wr := ⟨_, rfl⟩
  subst hw
  have hz1 := E1.size
  obtain ⟨CS1, FS1, LS1⟩ := KS1.cfl
  obtain ⟨CZ1, FZ1, LZ1⟩ := KZ1.cfl
  by_cases hlt : 0 < k
  ·
   have hlt2 : (0 : Int) < (k : Int) := by omega
   have hw9 : IntKind.i64.wrap ((k : Int) - 1) = (k : Int) - 1 := by rw [IntKind.wrap_i64]; omega
   go_wp2_with fail
   refine (drawEntry_c (cU B) hM (s := s') ⟨_, _, rfl, (by exact ownT), (by exact ownT)⟩).mono ?_
   rintro e w2 ⟨_, rfl, X2, hc2, ei, et, ec, es, ok, oa, ob, oc, od, rfl⟩
   have hz2 := X2.sz
   have E2 : Upd w w2 [g] := X2.up
   have KS2 : Blk w2 w.heap.size 62 #[.int .i64 s'.Index, .int .i64 s'.Time, .slice b2 m2 c2, .slice b3 m3 c3, .int .i64 s'.Lease.Holder, .int .i64 s'.Lease.Epoch, .int .i64 s'.Lease.Until] := bU X2
   have KZ2 : Blk w2 (w.heap.size + 1) 62 #[.int .i64 0, .int .i64 0, .slice none 0 0, .slice none 0 0, .int .i64 0, .int .i64 0, .int .i64 0] := bU X2
   have Ol2 : OwnI w.heap.size 95 9 w2 (.slice a0 n0 c0) (flEntry l) := OwnI.drawn (ow_ex0n Ol1 KS1) X2 oM
   have Op2 : OwnI M 122 2 w2 (.slice b2 m2 c2) (flPair s'.Pairs) := OwnI.drawn (ow_ex0n Op1 KS1) X2 oM
   have Oj2 : OwnI M 86 5 w2 (.slice b3 m3 c3) (flJob s'.Jobs) := OwnI.drawn (ow_ex0n Oj1 KS1) X2 oM
   clear X2
   clear CS1 FS1 LS1 CZ1 FZ1 LZ1
   obtain ⟨CS2, FS2, LS2⟩ := KS2.cfl
   obtain ⟨CZ2, FZ2, LZ2⟩ := KZ2.cfl
   go_upto_region 5 with (fail)
   go_cut [10, 11] (fun cx0 cx1 wx => ∃ nn : Nat, ∃ okb : Bool, ∃ s2 : DState, ∃ d2 : Option Addr, ∃ q2 : Nat, ∃ r2 : Nat, ∃ d3 : Option Addr, ∃ q3 : Nat, ∃ r3 : Nat, cx0 = .pointer (some ⟨nn, 0, none⟩) ∧ cx1 = .bool okb ∧ w2.heap.size < nn ∧ (stateOk s = true → stateOk s2 = true) ∧ Blk wx nn 62 #[.int .i64 s2.Index, .int .i64 s2.Time, .slice d2 q2 r2, .slice d3 q3 r3, .int .i64 s2.Lease.Holder, .int .i64 s2.Lease.Epoch, .int .i64 s2.Lease.Until] ∧ OwnI M 122 2 wx (.slice d2 q2 r2) (flPair s2.Pairs) ∧ OwnI M 86 5 wx (.slice d3 q3 r3) (flJob s2.Jobs) ∧ Upd w wx [g] ∧ Cur B wx g ∧ Blk wx w.heap.size 62 #[.int .i64 s'.Index, .int .i64 s'.Time, .slice b2 m2 c2, .slice b3 m3 c3, .int .i64 s'.Lease.Holder, .int .i64 s'.Lease.Epoch, .int .i64 s'.Lease.Until] ∧ Blk wx (w.heap.size + 1) 62 #[.int .i64 0, .int .i64 0, .slice none 0 0, .slice none 0 0, .int .i64 0, .int .i64 0, .int .i64 0] ∧ Blk wx w2.heap.size 95 #[.int .i64 ei, .int .i64 et, .int .i64 ec, .int .i64 es, .int .i64 ok, .int .i64 oa, .int .i64 ob, .int .i64 oc, .int .i64 od] ∧ OwnI w.heap.size 95 9 wx (.slice a0 n0 c0) (flEntry l) ∧ OwnI M 122 2 wx (.slice b2 m2 c2) (flPair s'.Pairs) ∧ OwnI M 86 5 wx (.slice b3 m3 c3) (flJob s'.Jobs))
   case first =>
    go_wp2_with fail
    refine (sApplied_k (s := s') (IsState.rd (B := M) ⟨_, _, rfl, (by exact ownT), (by exact ownT)⟩) _ _ _ _ _ _ _ _ _).mono ?_
    rintro e w3 ⟨_, rfl, hx3, u, rfl, gu⟩
    have hz3 := hx3.size; (try simp only [szA] at hz3)
    have E3 : Upd w w3 [g] := Upd.ext (by exact updT) hx3
    have hc3 : Cur B w3 g := Cur.ext (by exact curT) hx3
    have KS3 := KS2.exv hx3
    have KZ3 := KZ2.exv hx3
    have KE3 : Blk w3 w2.heap.size 95 #[.int .i64 ei, .int .i64 et, .int .i64 ec, .int .i64 es, .int .i64 ok, .int .i64 oa, .int .i64 ob, .int .i64 oc, .int .i64 od] := Blk.ext bD hx3
    have Ol3 := OwnI.ext1 (ow_ex0n Ol2 KS2) hx3
    have Op3 := OwnI.ext1 (ow_ex0n Op2 KS2) hx3
    have Oj3 := OwnI.ext1 (ow_ex0n Oj2 KS2) hx3
    clear hx3
    clear CS2 FS2 LS2 CZ2 FZ2 LZ2
    obtain ⟨CS3, FS3, LS3⟩ := KS3.cfl
    obtain ⟨CZ3, FZ3, LZ3⟩ := KZ3.cfl
    obtain ⟨CE3, FE3, LE3⟩ := KE3.cfl
    obtain ⟨v2, v3, rfl, gp, gj⟩ := gu
    obtain ⟨d2, q2, r2, rfl⟩ := gp.shape
    obtain ⟨d3, q3, r3, rfl⟩ := gj.shape
    have Oq3 := gp.mono (B' := M) (by simp only [World.size_alloc, World.size_setCell, size_setRow]; omega); have Or3 := gj.mono (B' := M) (by simp only [World.size_alloc, World.size_setCell, size_setRow]; omega)
    go_wp2_with fail
    go_meet
    case rel => exact ⟨_, _, _, _, _, _, _, _, _, (by first | rfl | trivial), (by first | rfl | trivial), (by first | omega | (simp only [szA] at *; omega)), (fun h => appD_ok (hok h)), bC, (ow_edx0 Oq3 KS3), (ow_edx0 Or3 KS3), (by exact updT), (by exact curT), bC, bC, bC, (ow_edx0 Ol3 KS3), (ow_edx0 Op3 KS3), (ow_edx0 Oj3 KS3)⟩
   revert wc; intro w3 hcut
   obtain ⟨nn, okb, s2, d2, q2, r2, d3, q3, r3, rfl, rfl, hnn, hok2, KN3, Oq3, Or3, E3, hc3, KS3, KZ3, KE3, Ol3, Op3, Oj3⟩ := hcut
   have hz3 := E3.size
   clear CS2 FS2 LS2 CZ2 FZ2 LZ2
   obtain ⟨CS3, FS3, LS3⟩ := KS3.cfl
   obtain ⟨CZ3, FZ3, LZ3⟩ := KZ3.cfl
   obtain ⟨CE3, FE3, LE3⟩ := KE3.cfl
   obtain ⟨CN3, FN3, LN3⟩ := KN3.cfl
   cases okb
   rotate_left
   ·
    have OO : OwnI w.heap.size 95 9 (w3.alloc (.cells #[.int .i64 ei, .int .i64 et, .int .i64 ec, .int .i64 es, .int .i64 ok, .int .i64 oa, .int .i64 ob, .int .i64 oc, .int .i64 od] 95)) (.slice a0 n0 c0) (flEntry l) := OwnI.ext1 Ol3 ((Ext.refl _).alloc _)
    go_upto_region 8 with (first | (at_builtin; go_loud (refine wp_appendU rfl _ _ 87 rfl 95 i0 _ 9 72 Tryz.underlying87 hi hy0 hy1 hy2 rfl dC w.heap.size _ _ rfl OO _ [ei, et, ec, es, ok, oa, ob, oc, od] rfl (Sl.oneAt _ #[.int .i64 ei, .int .i64 et, .int .i64 ec, .int .i64 es, .int .i64 ok, .int .i64 oa, .int .i64 ob, .int .i64 oc, .int .i64 od] _ 9 _ (by first | rfl | simp) rfl) 1000 (by simp only [length_flEntry, List.length_cons, List.length_nil]; omega) oM oM (by simp only [World.size_alloc]; omega) ?_; rotate_right; intro vv w4 On h3)))
    obtain ⟨a4, n4, c4, rfl⟩ := On.shape
    have Ol4 : OwnI w.heap.size 95 9 w4 (.slice a4 n4 c4) (flEntry (l ++ [DEntry.mk ei et ec es ⟨ok, oa, ob, oc, od⟩])) := by (have e9 : flEntry (l ++ [DEntry.mk ei et ec es ⟨ok, oa, ob, oc, od⟩]) = flEntry l ++ [ei, et, ec, es, ok, oa, ob, oc, od] := (by simp [flEntry, DEntry.ints])); rw [e9]; exact On
    have hz4 := h3.size; (try simp only [World.size_alloc] at hz4)
    have E4 : Upd w w4 [g] := Upd.app (by exact updT) OO (.inr oM) h3
    have hc4 : Cur B w4 g := Cur.app (by exact curT) OO oM h3
    have KS4 : Blk w4 w.heap.size 62 #[.int .i64 s'.Index, .int .i64 s'.Time, .slice b2 m2 c2, .slice b3 m3 c3, .int .i64 s'.Lease.Holder, .int .i64 s'.Lease.Epoch, .int .i64 s'.Lease.Until] := Blk.app bD OO dC h3
    have KZ4 : Blk w4 (w.heap.size + 1) 62 #[.int .i64 0, .int .i64 0, .slice none 0 0, .slice none 0 0, .int .i64 0, .int .i64 0, .int .i64 0] := Blk.app bD OO dC h3
    have KN4 : Blk w4 nn 62 #[.int .i64 s2.Index, .int .i64 s2.Time, .slice d2 q2 r2, .slice d3 q3 r3, .int .i64 s2.Lease.Holder, .int .i64 s2.Lease.Epoch, .int .i64 s2.Lease.Until] := Blk.app bD OO dC h3
    have Op4 : OwnI M 122 2 w4 (.slice b2 m2 c2) (flPair s'.Pairs) := OwnI.app (by exact ownT) OO dC h3
    have Oj4 : OwnI M 86 5 w4 (.slice b3 m3 c3) (flJob s'.Jobs) := OwnI.app (by exact ownT) OO dC h3
    have Oq4 : OwnI M 122 2 w4 (.slice d2 q2 r2) (flPair s2.Pairs) := OwnI.app (by exact ownT) OO dC h3
    have Or4 : OwnI M 86 5 w4 (.slice d3 q3 r3) (flJob s2.Jobs) := OwnI.app (by exact ownT) OO dC h3
    clear OO h3 On
    clear CS3 FS3 LS3 CZ3 FZ3 LZ3 CE3 FE3 LE3 CN3 FN3 LN3
    obtain ⟨CS4, FS4, LS4⟩ := KS4.cfl
    obtain ⟨CZ4, FZ4, LZ4⟩ := KZ4.cfl
    obtain ⟨CN4, FN4, LN4⟩ := KN4.cfl
    go_wp2_with fail
    go_roundw
    case rel => exact ⟨k - 1, l ++ [DEntry.mk ei et ec es ⟨ok, oa, ob, oc, od⟩], s2, d2, q2, r2, d3, q3, r3, by omega, by (try simp only [Value.int.injEq, true_and]); first | omega | (congr 1; omega), by simp; omega, hok2, by exact updT, by exact curT, (ow_edx0 Ol4 KS4), Blk.cast (by exact blkT) (by first | rfl | simp), Blk.cast (by exact blkT) (by first | rfl | simp), (ow_edx0 Oq4 KS4), (ow_edx0 Or4 KS4)⟩
    case measure => simp [intOf]; omega
   go_wp2_with fail
   go_roundw
   case rel => exact ⟨k - 1, l, s', b2, m2, c2, b3, m3, c3, by omega, by (try simp only [Value.int.injEq, true_and]); first | omega | (congr 1; omega), by omega, hok, by exact updT, by exact curT, (ow_edx0 Ol3 KS3), Blk.cast (by exact blkT) (by first | rfl | simp), Blk.cast (by exact blkT) (by first | rfl | simp), (ow_edx0 Op3 KS3), (ow_edx0 Oj3 KS3)⟩
   case measure => simp [intOf]; omega
  obtain rfl : k = 0 := by omega
  go_wp2_with fail
  refine wp_region_held_drew (S := fun w' => Upd w w' [g] ∧ Cur B w' g ∧ Blk w' w.heap.size 62 #[.int .i64 s'.Index, .int .i64 s'.Time, .slice b2 m2 c2, .slice b3 m3 c3, .int .i64 s'.Lease.Holder, .int .i64 s'.Lease.Epoch, .int .i64 s'.Lease.Until]) (by kernel_rfl) (by (try dsimp only); exact ⟨(by exact updT), (by exact curT), bC⟩) (fun hHeld => ?_)
  refine wt 0 ?_
  (try simp only [redA, Act.put])
  refine wtq 1 (fun _ h => h.2.2.cell) ?_
  (try simp only [redA, Act.put])
  refine wr1 2 fun Kz hKz => ?_
  (try simp only [redA])
  go_simp
  refine hKz.o3 fun hHeld => ?_
  clear hKz Kz
  (try simp only [redA, Act.put])
  refine wr1 3 fun Kz hKz => ?_
  (try simp only [redA])
  go_simp
  refine hKz.o3 fun hHeld => ?_
  clear hKz Kz
  (try simp only [redA, Act.put])
  refine wpAnyH_done (by kernel_rfl) ?_ _
  go_wp2_with fail
  refine bodyPost_ret (by simp [results, Tryz.results73, go_sem, CS1, FS1, LS1, CZ1, FZ1, LZ1]; try rfl) rfl ?_
  exact ⟨_, rfl, by exact updT, by exact curT, _, _, l, s', rfl, (ow_edx0 Ol1 KZ1), by omega, ⟨_, _, rfl, (ow_edx0 Op1 KZ1), (ow_edx0 Oj1 KZ1)⟩, hok⟩
theorem OwnI.updX2 {B : Nat} {e t u : TypeId} {n : Nat} {w w' : World} {v : Value} {xs : List Int} {X Y : Nat} {a b : Array Value} (h : OwnI B e n w v xs) (hX : Blk w X t a) (hY : Blk w Y u b) (h1 : t ≠ e) (h2 : u ≠ e) (x : Upd w w' [X, Y]) : OwnI B e n w' v xs :=
 Own.upd h x (fun k hk hm => by
  have hm : k = X ∨ k = Y := by simpa using hm
  obtain ⟨c, hc⟩ := Own.typed' h hk
  rcases hm with hm | hm
  ·
   subst hm
   unfold Blk at hc hX
   rw [hX] at hc
   injection hc with hc
   injection hc with _ hc
   exact h1 hc
  subst hm
  unfold Blk at hc hY
  rw [hY] at hc
  injection hc with hc
  injection hc with _ hc
  exact h2 hc)
theorem Upd.setA {a b : World} {g k : Nat} (h : Upd a b [g, k]) (o : Nat) (u : Value) : Upd a (b.setCell ⟨g, o, none⟩ u) [g, k] := h.setCell (by simp) u
theorem Upd.setB {a b : World} {g k : Nat} (h : Upd a b [g, k]) (o : Nat) (u : Value) : Upd a (b.setCell ⟨k, o, none⟩ u) [g, k] := h.setCell (by simp) u
theorem Upd.rowIn {a b : World} {fs : List Nat} (h : Upd a b fs) {g : Nat} (hg : g ∈ fs) (cs : Array Value) : Upd a (b.setRow g cs) fs :=
 ⟨h.os, h.tape, h.output, by rw [size_setRow]; exact h.size, fun k hk hn => (heap_setRow_ne b cs (fun e => hn (by rw [e]; exact hg))).trans (h.block k hk hn)⟩
theorem Upd.rowA {a b : World} {g k : Nat} (h : Upd a b [g, k]) (cs : Array Value) : Upd a (b.setRow g cs) [g, k] := Upd.rowIn h (by simp) cs
theorem Upd.rowB {a b : World} {g k : Nat} (h : Upd a b [g, k]) (cs : Array Value) : Upd a (b.setRow k cs) [g, k] := Upd.rowIn h (by simp) cs
theorem upd2T {a b : World} {g k : Nat} (h : Upd a b [g, k] := by ((repeat' (first | (with_reducible exact Upd.refl _ _) | (with_reducible refine Upd.drewNd ?_ _) | (with_reducible refine Upd.drewd1 ?_) | (with_reducible refine Upd.alloc ?_ _) | (with_reducible refine Upd.setA ?_ _ _) | (with_reducible refine Upd.setB ?_ _ _) | (with_reducible refine Upd.rowA ?_ _) | (with_reducible refine Upd.rowB ?_ _) | (with_reducible refine Upd.setAt ?_ ?_ _) | (with_reducible refine Upd.rowNew ?_ ?_ _) | omega)); first | done | fail)) : Upd a b [g, k] := h
theorem ow_edx0x1y01 {B : Nat} {e : TypeId} {n : Nat} {w w' : World} {v : Value} {xs : List Int} {t0 : TypeId} {k0 : Nat} {c0 : Array Value} {t1 : TypeId} {k1 : Nat} {c1 : Array Value} (O : OwnI B e n w v xs) (K0 : Blk w k0 t0 c0) (K1 : Blk w k1 t1 c1) (h : OwnI B e n w v xs → Blk w k0 t0 c0 → Blk w k1 t1 c1 → OwnI B e n w' v xs := by intro O1 K0 K1; first | (with_reducible exact O1) | (refine OwnI.drawn O1 ?_ (by omega); (exact updT); done) | (refine OwnI.updX O1 K0 (by decide) ?_; (exact updT); done) | (refine OwnI.updX O1 K1 (by decide) ?_; (exact updT); done) | (refine OwnI.updX2 O1 K0 K1 (by decide) (by decide) ?_; (exact upd2T); done)) : OwnI B e n w' v xs := h O K0 K1
theorem ow_ex0x1y01n {B : Nat} {e : TypeId} {n : Nat} {w w' : World} {v : Value} {xs : List Int} {t0 : TypeId} {k0 : Nat} {c0 : Array Value} {t1 : TypeId} {k1 : Nat} {c1 : Array Value} (O : OwnI B e n w v xs) (K0 : Blk w k0 t0 c0) (K1 : Blk w k1 t1 c1) (h : OwnI B e n w v xs → Blk w k0 t0 c0 → Blk w k1 t1 c1 → OwnI B e n w' v xs := by intro O1 K0 K1; first | (with_reducible exact O1) | (refine OwnI.updX O1 K0 (by decide) ?_; (exact updT); done) | (refine OwnI.updX O1 K1 (by decide) ?_; (exact updT); done) | (refine OwnI.updX2 O1 K0 K1 (by decide) (by decide) ?_; (exact upd2T); done) | (exact ownT)) : OwnI B e n w' v xs := h O K0 K1
theorem l17Draw_c {B : Nat} {w : World} {g : Nat} (h : Cur B w g) : Calls Tryz.prog 64 #[.pointer (some ⟨g, 0, none⟩)] w (Dr B w g fun v w' => ∃ s : DState, IsState w.heap.size w' v s) := by
 have hc0 := h; have E0 : Upd w w [g] := Upd.refl _ _
 have hg0 := h.lt
 go_enter Tryz.func64, Tryz.ntmps64
 go_wp2_with fail
 refine (sNewState_c _).mono ?_
 rintro e w1 ⟨rfl, hx1⟩
 have hz1 := hx1.size; (try simp only [szA] at hz1)
 have E1 : Upd w w1 [g] := Upd.ext (by exact updT) hx1
 have hc1 : Cur B w1 g := Cur.ext (by exact curT) hx1
 have KR1 : Blk w1 w.heap.size 62 #[.int .i64 0, .int .i64 0, .slice none 0 0, .slice none 0 0, .int .i64 0, .int .i64 0, .int .i64 0] := Blk.ext bD hx1
 clear hx1
 obtain ⟨CR1, FR1, LR1⟩ := KR1.cfl
 go_wp2_with fail
 refine (l1Below_c (cU B) 16).mono ?_
 rintro e w2 ⟨_, rfl, X2, hc2, n, rfl, pn, qn, rn⟩
 have hz2 := X2.sz
 have E2 : Upd w w2 [g] := X2.up
 have KR2 := KR1.upv X2
 clear X2
 clear CR1 FR1 LR1
 obtain ⟨CR2, FR2, LR2⟩ := KR2.cfl
 have qn := qn dC; clear rn
 obtain ⟨N, rfl⟩ := Int.eq_ofNat_of_zero_le pn
 go_wp2_with fail
 refine (drawEntries_c (cU B) (M := w.heap.size) oM (IsState.nil _ _) oM N oM).mono ?_
 rintro e w3 ⟨_, rfl, X3, hc3, u, x, l, s, rfl, Ol, hl, hs, hok⟩
 have hz3 := X3.sz
 have E3 : Upd w w3 [g] := X3.up
 have KR3 := KR2.upv X3
 clear X3
 clear CR2 FR2 LR2
 obtain ⟨CR3, FR3, LR3⟩ := KR3.cfl
 obtain ⟨t2, t3, rfl, h2, h3⟩ := hs
 obtain ⟨a2, n2, k2, rfl⟩ := h2.shape
 obtain ⟨a3, n3, k3, rfl⟩ := h3.shape
 have Op3 := h2; have Oj3 := h3; clear h2 h3
 go_wp2_with fail
 refine (l1Once_c (cU B) 20).mono ?_
 rintro e w4 ⟨_, rfl, X4, hc4, b1, rfl⟩
 have hz4 := X4.sz
 have E4 : Upd w w4 [g] := X4.up
 have KR4 := KR3.upv X4
 have KD4 : Blk w4 w3.heap.size 62 #[.int .i64 s.Index, .int .i64 s.Time, .slice a2 n2 k2, .slice a3 n3 k3, .int .i64 s.Lease.Holder, .int .i64 s.Lease.Epoch, .int .i64 s.Lease.Until] := bU X4
 have Op4 : OwnI w.heap.size 122 2 w4 (.slice a2 n2 k2) (flPair s.Pairs) := OwnI.drawn (ow_ex0n Op3 KR3) X4 oM
 have Oj4 : OwnI w.heap.size 86 5 w4 (.slice a3 n3 k3) (flJob s.Jobs) := OwnI.drawn (ow_ex0n Oj3 KR3) X4 oM
 clear X4
 clear CR3 FR3 LR3
 obtain ⟨CR4, FR4, LR4⟩ := KR4.cfl
 obtain ⟨CD4, FD4, LD4⟩ := KD4.cfl
 cases b1
 rotate_left
 ·
  go_wp2_with fail
  refine (l1Below_c (cU B) 2).mono ?_
  rintro e w5 ⟨_, rfl, X5, hc5, y, rfl, py, qy, ry⟩
  have hz5 := X5.sz
  have E5 : Upd w w5 [g] := X5.up
  have KR5 := KR4.upv X5
  have KD5 := KD4.upv X5
  have Op5 := OwnI.drawn (ow_ex0x1y01n Op4 KR4 KD4) X5 oM
  have Oj5 := OwnI.drawn (ow_ex0x1y01n Oj4 KR4 KD4) X5 oM
  clear X5
  clear CR4 FR4 LR4 CD4 FD4 LD4
  obtain ⟨CR5, FR5, LR5⟩ := KR5.cfl
  obtain ⟨CD5, FD5, LD5⟩ := KD5.cfl
  have qy := qy dC; clear ry
  go_wp2_with fail
  refine (l1Once_c (cU B) 20).mono ?_
  rintro e w6 ⟨_, rfl, X6, hc6, b2, rfl⟩
  have hz6 := X6.sz
  have E6 : Upd w w6 [g] := X6.up
  have KR6 := KR5.upv X6
  have KD6 : Blk w6 w3.heap.size 62 #[.int .i64 (2000 - y), .int .i64 s.Time, .slice a2 n2 k2, .slice a3 n3 k3, .int .i64 s.Lease.Holder, .int .i64 s.Lease.Epoch, .int .i64 s.Lease.Until] := bU X6
  have Op6 := OwnI.drawn (ow_ex0x1y01n Op5 KR5 KD5) X6 oM
  have Oj6 := OwnI.drawn (ow_ex0x1y01n Oj5 KR5 KD5) X6 oM
  clear X6
  clear CR5 FR5 LR5 CD5 FD5 LD5
  obtain ⟨CR6, FR6, LR6⟩ := KR6.cfl
  obtain ⟨CD6, FD6, LD6⟩ := KD6.cfl
  cases b2
  rotate_left
  ·
   go_wp2_with fail
   refine (l1Below_c (cU B) 8).mono ?_
   rintro e w7 ⟨_, rfl, X7, hc7, z, rfl, pz, qz, rz⟩
   have hz7 := X7.sz
   have E7 : Upd w w7 [g] := X7.up
   have KR7 := KR6.upv X7
   have KD7 := KD6.upv X7
   have Op7 := OwnI.drawn (ow_ex0x1y01n Op6 KR6 KD6) X7 oM
   have Oj7 := OwnI.drawn (ow_ex0x1y01n Oj6 KR6 KD6) X7 oM
   clear X7
   clear CR6 FR6 LR6 CD6 FD6 LD6
   obtain ⟨CR7, FR7, LR7⟩ := KR7.cfl
   obtain ⟨CD7, FD7, LD7⟩ := KD7.cfl
   have qz := qz dC; clear rz
   go_wp2_with fail
   refine bodyPost_ret (by simp [results, Tryz.results64, go_sem, CR7, FR7, LR7, CD7, FD7, LD7]; try rfl) rfl ?_
   exact ⟨_, rfl, by exact updT, by exact curT, ⟨(2000 - y), (1000000 - z), s.Pairs, s.Jobs, s.Lease⟩, ⟨_, _, rfl, OwnI.mono (ow_edx0x1y01 Op7 KR7 KD7) oM, OwnI.mono (ow_edx0x1y01 Oj7 KR7 KD7) oM⟩⟩
  go_wp2_with fail
  refine bodyPost_ret (by simp [results, Tryz.results64, go_sem, CR6, FR6, LR6, CD6, FD6, LD6]; try rfl) rfl ?_
  exact ⟨_, rfl, by exact updT, by exact curT, ⟨(2000 - y), s.Time, s.Pairs, s.Jobs, s.Lease⟩, ⟨_, _, rfl, OwnI.mono (ow_edx0x1y01 Op6 KR6 KD6) oM, OwnI.mono (ow_edx0x1y01 Oj6 KR6 KD6) oM⟩⟩
 go_wp2_with fail
 refine (l1Once_c (cU B) 20).mono ?_
 rintro e w5 ⟨_, rfl, X5, hc5, b2, rfl⟩
 have hz5 := X5.sz
 have E5 : Upd w w5 [g] := X5.up
 have KR5 := KR4.upv X5
 have KD5 := KD4.upv X5
 have Op5 := OwnI.drawn (ow_ex0x1y01n Op4 KR4 KD4) X5 oM
 have Oj5 := OwnI.drawn (ow_ex0x1y01n Oj4 KR4 KD4) X5 oM
 clear X5
 clear CR4 FR4 LR4 CD4 FD4 LD4
 obtain ⟨CR5, FR5, LR5⟩ := KR5.cfl
 obtain ⟨CD5, FD5, LD5⟩ := KD5.cfl
 cases b2
 rotate_left
 ·
  go_wp2_with fail
  refine (l1Below_c (cU B) 8).mono ?_
  rintro e w6 ⟨_, rfl, X6, hc6, z, rfl, pz, qz, rz⟩
  have hz6 := X6.sz
  have E6 : Upd w w6 [g] := X6.up
  have KR6 := KR5.upv X6
  have KD6 := KD5.upv X6
  have Op6 := OwnI.drawn (ow_ex0x1y01n Op5 KR5 KD5) X6 oM
  have Oj6 := OwnI.drawn (ow_ex0x1y01n Oj5 KR5 KD5) X6 oM
  clear X6
  clear CR5 FR5 LR5 CD5 FD5 LD5
  obtain ⟨CR6, FR6, LR6⟩ := KR6.cfl
  obtain ⟨CD6, FD6, LD6⟩ := KD6.cfl
  have qz := qz dC; clear rz
  go_wp2_with fail
  refine bodyPost_ret (by simp [results, Tryz.results64, go_sem, CR6, FR6, LR6, CD6, FD6, LD6]; try rfl) rfl ?_
  exact ⟨_, rfl, by exact updT, by exact curT, ⟨s.Index, (1000000 - z), s.Pairs, s.Jobs, s.Lease⟩, ⟨_, _, rfl, OwnI.mono (ow_edx0x1y01 Op6 KR6 KD6) oM, OwnI.mono (ow_edx0x1y01 Oj6 KR6 KD6) oM⟩⟩
 go_wp2_with fail
 refine bodyPost_ret (by simp [results, Tryz.results64, go_sem, CR5, FR5, LR5, CD5, FD5, LD5]; try rfl) rfl ?_
 exact ⟨_, rfl, by exact updT, by exact curT, ⟨s.Index, s.Time, s.Pairs, s.Jobs, s.Lease⟩, ⟨_, _, rfl, OwnI.mono (ow_edx0x1y01 Op5 KR5 KD5) oM, OwnI.mono (ow_edx0x1y01 Oj5 KR5 KD5) oM⟩⟩
theorem l1New_c {w : World} {v : Value} (h : Bytes w v) : Calls Tryz.prog 12 #[v] w (Ret w fun r w' => ∃ g : Nat, r = .pointer (some ⟨g, 0, none⟩) ∧ Cur w.heap.size w' g) := by
 obtain ⟨bs, h, hb⟩ := h
 have HB := Lib.hid hb
 clear hb
 obtain ⟨a, n, k, rfl, hl, hnk, hkm, hc⟩ := h.open_
 clear h
 have HC := Lib.hid hc
 clear hc
 have hl2 : bs.length = n := by simpa using hl
 have HL := Lib.hid hl2
 clear hl hl2
 go_enter Tryz.func12, Tryz.ntmps12
 go_wp2_with fail
 go_loopw [3, 4] (fun hh ii wr => wr = w ∧ ∃ (x : Int) (i : Nat), hh = .int .i64 x ∧ ii = .int .i64 i ∧ i ≤ n) (fun _ ii _ => n - (intOf ii).toNat)
 case atStart => exact ⟨rfl, _, 0, rfl, rfl, Nat.zero_le _⟩
 case round =>
  obtain ⟨rfl, x, i, rfl, rfl, hi⟩ := hrel
  by_cases hlt : i < n
  ·
   obtain ⟨b, off, rfl, hbl, hcl⟩ := HC.out i hlt
   have hy := List.getElem?_eq_getElem (l := bs) (i := i) (by rw [HL.out]; exact hlt)
   have hce := hcl 0 _ (by simp only [Nat.mul_one, Nat.add_zero, List.getElem?_map, hy]; rfl)
   simp only [Nat.mul_one, Nat.add_zero] at hce
   obtain ⟨y, hy0, hy1, hyy⟩ : ∃ y : Int, 0 ≤ y ∧ y ≤ 255 ∧ wr.cell? ⟨b, off + i, none⟩ = some (.int .u8 y) := ⟨_, (HB.out _ (List.getElem_mem _)).1, (HB.out _ (List.getElem_mem _)).2, hce⟩
   clear hce hcl hy
   have hlt2 : (i : Int) < (n : Int) := by omega
   unfold maxLen at hkm
   go_wp2_with fail
   go_roundw
   case rel => exact ⟨by first | rfl | trivial, _, i + 1, rfl, by go_num, by omega⟩
   case measure => simp [intOf]; omega
  have hin : i = n := by omega
  have hlt2 : ¬ (i : Int) < (n : Int) := by omega
  go_wp2_with fail
  go_ret
  refine ⟨_, rfl, xT, _, rfl, a, n, k, 0, x, ?_, Nat.le_refl _, Nat.zero_le _, hnk, hkm, fun j hj => ?_⟩
  ·
   exact Blk.new _ _ _
  obtain ⟨b, off, ha, hbl, hcl⟩ := HC.out j hj
  have hy := List.getElem?_eq_getElem (l := bs) (i := j) (by rw [HL.out]; exact hj)
  have hce := hcl 0 _ (by simp only [Nat.mul_one, Nat.add_zero, List.getElem?_map, hy]; rfl)
  simp only [Nat.mul_one, Nat.add_zero] at hce
  exact ⟨b, off, _, ha, hbl, (HB.out _ (List.getElem_mem _)).1, (HB.out _ (List.getElem_mem _)).2, (((Ext.refl _).alloc _).cells.1 _ _ hbl).trans hce⟩
end Go.Proofs.YtfhaooaajpopmaaGreat
