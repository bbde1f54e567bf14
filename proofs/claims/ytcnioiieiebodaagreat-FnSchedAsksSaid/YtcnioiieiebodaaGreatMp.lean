/- Contracts and plain laws: DS DS3 DS2 DS4 DS5 DS6. -/
import Derived.Test.YtcnioiieiebodaaGreatMa
import Derived.Deep.DeepCutAuto
import Derived.Test.YtcnioiieiebodaaGreatMo
import Derived.Test.YtcnioiieiebodaaGreatMk
set_option linter.unusedSimpArgs false
set_option linter.unusedVariables false
-- Draws of operations.
set_option linter.unusedSimpArgs false
set_option linter.unusedVariables false
namespace Go.Proofs.YtcnioiieiebodaaGreat
open Go.RowKit Go.G8

theorem OwnI.updX {B : Nat} {e t : TypeId} {n : Nat} {w w' : World} {v : Value} {xs : List Int} {X : Nat} {a : Array Value} (h : OwnI B e n w v xs) (hX : Blk w X t a) (h1 : t ≠ e) (x : Upd w w' [X]) : OwnI B e n w' v xs :=
 Own.upd h x (fun k hk hm => by
  have hm : k = X := by simpa using hm
  subst hm
  obtain ⟨c, hc⟩ := Own.typed' h hk
  unfold Blk at hc hX
  rw [hX] at hc
  injection hc with hc
  injection hc with _ hc
  exact h1 hc)
theorem IsState.drawn {M : Nat} {w w' : World} {v : Value} {s : DState} {g : Nat} (h : IsState M w v s) (x : Upd w w' [g]) (hg : g < M) : IsState M w' v s := let ⟨t2, t3, e, h2, h3⟩ := h; ⟨t2, t3, e, h2.drawn x hg, h3.drawn x hg⟩
theorem IsState.nil (M : Nat) (w : World) : IsState M w (.agg #[.int .i64 0, .int .i64 0, .slice none 0 0, .slice none 0 0, .int .i64 0, .int .i64 0, .int .i64 0]) ⟨0, 0, [], [], ⟨0, 0, 0⟩⟩ := ⟨_, _, rfl, OwnI.nil _ _ _ _, OwnI.nil _ _ _ _⟩
set_option maxHeartbeats 4000000 in
set_option maxRecDepth 100000 in
theorem capOp_c (w : World) (k0 k1 k2 k3 k4 : Int) : Calls Tryz.prog 190 #[.agg #[.int .i64 k0, .int .i64 k1, .int .i64 k2, .int .i64 k3, .int .i64 k4]] w (Ret w fun v _ => ∃ x y z t u : Int, v = .agg #[.int .i64 x, .int .i64 y, .int .i64 z, .int .i64 t, .int .i64 u]) := by
 go_enter Tryz.func190, Tryz.ntmps190
 by_cases hk : k0 = 3
 ·
  subst hk
  go_wp2_with (go_at_call 80; refine (l1Min_c _ _).mono ?_; rintro e w9 ⟨rfl, rfl⟩)
  refine bodyPost_ret (by simp [results, Tryz.results190, go_sem]; try rfl) rfl ?_
  exact ⟨_, rfl, by (first | exact extT | omega), _, _, _, _, _, rfl⟩
 ·
  have hb : (k0 == 3) = false := by simp [hk]
  go_wp2_with fail
  refine bodyPost_ret (by simp [results, Tryz.results190, go_sem]; try rfl) rfl ?_
  exact ⟨_, rfl, by (first | exact extT | omega), _, _, _, _, _, rfl⟩
set_option maxHeartbeats 4000000 in
set_option maxRecDepth 100000 in
theorem drawOp_c {B : Nat} {w : World} {g : Nat} (h : Cur B w g) {M : Nat} (hM : g < M) {t : Value} {s : DState} (hs : IsState M w t s) (cl : Int) : Calls Tryz.prog 77 #[.pointer (some ⟨g, 0, none⟩), t, .int .i64 cl] w (Dr B w g fun v w' => ∃ x y z t u : Int, v = .agg #[.int .i64 x, .int .i64 y, .int .i64 z, .int .i64 t, .int .i64 u]) := by
 obtain ⟨t2, t3, rfl, h2, h3⟩ := hs
 obtain ⟨a2, n2, k2, rfl⟩ := h2.shape
 obtain ⟨a3, n3, k3, rfl⟩ := h3.shape
 have Op0 := h2; have Oj0 := h3; clear h2 h3
 have hc0 := h; have E0 : Upd w w [g] := Upd.refl _ _
 have hg0 := h.lt
 go_enter Tryz.func77, Tryz.ntmps77
 go_wp2_with fail
 refine (l1Below_c (show Cur B _ g from by exact curT) 12).mono ?_
 rintro e w1 ⟨_, rfl, X1, hc1, x0, rfl, px0, qx0, rx0⟩
 have hz1 := X1.size; (try simp only [szA] at hz1)
 have E1 : Upd w w1 [g] := Upd.trans (by exact updT) X1
 have KS1 : Blk w1 w.heap.size 63 #[.int .i64 s.Index, .int .i64 s.Time, .slice a2 n2 k2, .slice a3 n3 k3, .int .i64 s.Lease.Holder, .int .i64 s.Lease.Epoch, .int .i64 s.Lease.Until] := Blk.upd1 (Blk.cast (by exact blkT) (by first | rfl | simp)) X1 (by omega)
 have KR1 : Blk w1 (w.heap.size + 1) 30 #[.int .i64 0, .int .i64 0, .int .i64 0, .int .i64 0, .int .i64 0] := Blk.upd1 (Blk.cast (by exact blkT) (by first | rfl | simp)) X1 (by omega)
 have Op1 : OwnI M 157 2 w1 (.slice a2 n2 k2) (flPair s.Pairs) := OwnI.drawn (by exact ownT) X1 (by omega)
 have Oj1 : OwnI M 142 5 w1 (.slice a3 n3 k3) (flJob s.Jobs) := OwnI.drawn (by exact ownT) X1 (by omega)
 clear X1
 have CS1 := KS1.cell; have FS1 := KS1.frozen; have LS1 := KS1.lt
 have CR1 := KR1.cell; have FR1 := KR1.frozen; have LR1 := KR1.lt
 have qx0 := qx0 (by decide); clear rx0
 obtain hway | hway | hway | hway | hway : (x0 = 0 ∨ x0 = 1 ∨ x0 = 2) ∨ (x0 = 3) ∨ (x0 = 4 ∨ x0 = 5 ∨ x0 = 6) ∨ (x0 = 7 ∨ x0 = 8) ∨ x0 ≥ 9 := by omega
 ·
  skip
  obtain rfl | rfl | rfl := hway
  all_goals
   go_wp2_with fail
   refine (l1Below_c (show Cur B _ g from by exact curT) 5).mono ?_
   rintro e w2 ⟨_, rfl, X2, hc2, x1, rfl, px1, qx1, rx1⟩
   have hz2 := X2.size; (try simp only [szA] at hz2)
   have E2 : Upd w w2 [g] := Upd.trans (by exact updT) X2
   have KS2 : Blk w2 w.heap.size 63 #[.int .i64 s.Index, .int .i64 s.Time, .slice a2 n2 k2, .slice a3 n3 k3, .int .i64 s.Lease.Holder, .int .i64 s.Lease.Epoch, .int .i64 s.Lease.Until] := Blk.upd1 (Blk.cast (by exact blkT) (by first | rfl | simp)) X2 (by omega)
   have KR2 : Blk w2 (w.heap.size + 1) 30 #[.int .i64 0, .int .i64 0, .int .i64 0, .int .i64 0, .int .i64 0] := Blk.upd1 (Blk.cast (by exact blkT) (by first | rfl | simp)) X2 (by omega)
   have Op2 : OwnI M 157 2 w2 (.slice a2 n2 k2) (flPair s.Pairs) := OwnI.drawn (by exact ownT) X2 (by omega)
   have Oj2 : OwnI M 142 5 w2 (.slice a3 n3 k3) (flJob s.Jobs) := OwnI.drawn (by exact ownT) X2 (by omega)
   clear X2
   clear CS1 FS1 LS1 CR1 FR1 LR1
   have CS2 := KS2.cell; have FS2 := KS2.frozen; have LS2 := KS2.lt
   have CR2 := KR2.cell; have FR2 := KR2.frozen; have LR2 := KR2.lt
   have qx1 := qx1 (by decide); clear rx1
   go_wp2_with fail
   refine (l1Below_c (show Cur B _ g from by exact curT) 9).mono ?_
   rintro e w3 ⟨_, rfl, X3, hc3, x2, rfl, px2, qx2, rx2⟩
   have hz3 := X3.size; (try simp only [szA] at hz3)
   have E3 : Upd w w3 [g] := Upd.trans (by exact updT) X3
   have KS3 : Blk w3 w.heap.size 63 #[.int .i64 s.Index, .int .i64 s.Time, .slice a2 n2 k2, .slice a3 n3 k3, .int .i64 s.Lease.Holder, .int .i64 s.Lease.Epoch, .int .i64 s.Lease.Until] := Blk.upd1 (Blk.cast (by exact blkT) (by first | rfl | simp)) X3 (by omega)
   have KR3 : Blk w3 (w.heap.size + 1) 30 #[.int .i64 0, .int .i64 0, .int .i64 0, .int .i64 0, .int .i64 0] := Blk.upd1 (Blk.cast (by exact blkT) (by first | rfl | simp)) X3 (by omega)
   have Op3 : OwnI M 157 2 w3 (.slice a2 n2 k2) (flPair s.Pairs) := OwnI.drawn (by exact ownT) X3 (by omega)
   have Oj3 : OwnI M 142 5 w3 (.slice a3 n3 k3) (flJob s.Jobs) := OwnI.drawn (by exact ownT) X3 (by omega)
   clear X3
   clear CS2 FS2 LS2 CR2 FR2 LR2
   have CS3 := KS3.cell; have FS3 := KS3.frozen; have LS3 := KS3.lt
   have CR3 := KR3.cell; have FR3 := KR3.frozen; have LR3 := KR3.lt
   have qx2 := qx2 (by decide); clear rx2
   go_wp2_with fail
   refine bodyPost_ret (by simp [results, Tryz.results77, go_sem, CS3, FS3, LS3, CR3, FR3, LR3]; try rfl) rfl ?_
   exact ⟨_, rfl, by exact updT, by exact curT, _, _, _, _, _, rfl⟩
 ·
  skip
  obtain rfl := hway
  go_wp2_with fail
  refine (l1Below_c (show Cur B _ g from by exact curT) 5).mono ?_
  rintro e w2 ⟨_, rfl, X2, hc2, x1, rfl, px1, qx1, rx1⟩
  have hz2 := X2.size; (try simp only [szA] at hz2)
  have E2 : Upd w w2 [g] := Upd.trans (by exact updT) X2
  have KS2 : Blk w2 w.heap.size 63 #[.int .i64 s.Index, .int .i64 s.Time, .slice a2 n2 k2, .slice a3 n3 k3, .int .i64 s.Lease.Holder, .int .i64 s.Lease.Epoch, .int .i64 s.Lease.Until] := Blk.upd1 (Blk.cast (by exact blkT) (by first | rfl | simp)) X2 (by omega)
  have KR2 : Blk w2 (w.heap.size + 1) 30 #[.int .i64 0, .int .i64 0, .int .i64 0, .int .i64 0, .int .i64 0] := Blk.upd1 (Blk.cast (by exact blkT) (by first | rfl | simp)) X2 (by omega)
  have Op2 : OwnI M 157 2 w2 (.slice a2 n2 k2) (flPair s.Pairs) := OwnI.drawn (by exact ownT) X2 (by omega)
  have Oj2 : OwnI M 142 5 w2 (.slice a3 n3 k3) (flJob s.Jobs) := OwnI.drawn (by exact ownT) X2 (by omega)
  clear X2
  clear CS1 FS1 LS1 CR1 FR1 LR1
  have CS2 := KS2.cell; have FS2 := KS2.frozen; have LS2 := KS2.lt
  have CR2 := KR2.cell; have FR2 := KR2.frozen; have LR2 := KR2.lt
  have qx1 := qx1 (by decide); clear rx1
  go_wp2_with fail
  refine bodyPost_ret (by simp [results, Tryz.results77, go_sem, CS2, FS2, LS2, CR2, FR2, LR2]; try rfl) rfl ?_
  exact ⟨_, rfl, by exact updT, by exact curT, _, _, _, _, _, rfl⟩
 ·
  skip
  obtain rfl | rfl | rfl := hway
  all_goals
   go_wp2_with fail
   refine wp_region_held_drew (S := fun w' => Upd w w' [g] ∧ Cur B w' g ∧ Blk w' w.heap.size 63 #[.int .i64 s.Index, .int .i64 s.Time, .slice a2 n2 k2, .slice a3 n3 k3, .int .i64 s.Lease.Holder, .int .i64 s.Lease.Epoch, .int .i64 s.Lease.Until]) (by kernel_rfl) (by (try dsimp only); exact ⟨(by exact updT), (by exact curT), (Blk.cast (by exact blkT) setsT)⟩) (fun hHeld => ?_)
   refine wpAnyH_take (i := 0) (v := ?_) rfl (by kernel_rfl) (by kernel_rfl) (by kernel_rfl) (fun _ _ _ h => h) (Or.inl ⟨by rfl, ?_⟩) (by assumption) ?_
   rotate_left
   focus (intro w hSw; (try dsimp only at hSw); go_simp <;> with_reducible rfl)
   (try simp only [redA, Act.put])
   refine wpAnyH_take (i := 3) (v := ?_) rfl (by kernel_rfl) (by kernel_rfl) (by kernel_rfl) (fun _ _ _ h => h) (Or.inl ⟨by rfl, ?_⟩) (by assumption) ?_
   rotate_left
   focus (intro w hSw; (try dsimp only at hSw); go_simp <;> with_reducible rfl)
   (try simp only [redA, Act.put])
   refine wpAnyH_take (i := 4) (v := ?_) rfl (by kernel_rfl) (by kernel_rfl) (by kernel_rfl) (fun _ _ _ h => h) (Or.inl ⟨by rfl, ?_⟩) (by assumption) ?_
   rotate_left
   focus (intro w hSw; (try dsimp only at hSw); have hq := hSw.2.2.cell; go_simp <;> with_reducible rfl)
   (try simp only [redA, Act.put])
   refine wpAnyH_take (i := 5) (v := ?_) rfl (by kernel_rfl) (by kernel_rfl) (by kernel_rfl) (fun _ _ _ h => h) (Or.inl ⟨by rfl, ?_⟩) (by assumption) ?_
   rotate_left
   focus (intro w hSw; (try dsimp only at hSw); go_simp <;> with_reducible rfl)
   (try simp only [redA, Act.put])
   refine wpAnyH_take (i := 8) (v := ?_) rfl (by kernel_rfl) (by kernel_rfl) (by kernel_rfl) (fun _ _ _ h => h) (Or.inl ⟨by rfl, ?_⟩) (by assumption) ?_
   rotate_left
   focus (intro w hSw; (try dsimp only at hSw); go_simp <;> with_reducible rfl)
   (try simp only [redA, Act.put])
   refine wpAnyH_take (i := 10) (v := ?_) rfl (by kernel_rfl) (by kernel_rfl) (by kernel_rfl) (fun _ _ _ h => h) (Or.inl ⟨by rfl, ?_⟩) (by assumption) ?_
   rotate_left
   focus (intro w hSw; (try dsimp only at hSw); go_simp <;> with_reducible rfl)
   (try simp only [redA, Act.put])
   refine wpAnyH_ready (rs := [1]) (by kernel_rfl) (by simp) ?_
   refine AllReadyH.cons rfl (fun Kz hKz => ?_) AllReadyH.nil
   (try simp only [redA])
   go_simp
   go_at_call 30
   refine (l1Below_c (show Cur B _ g from by exact curT) 9).mono ?_
   rintro e w2 ⟨_, rfl, X2, hc2, x1, rfl, px1, qx1, rx1⟩
   have hz2 := X2.size; (try simp only [szA] at hz2)
   have E2 : Upd w w2 [g] := Upd.trans (by exact updT) X2
   have KS2 : Blk w2 w.heap.size 63 #[.int .i64 s.Index, .int .i64 s.Time, .slice a2 n2 k2, .slice a3 n3 k3, .int .i64 s.Lease.Holder, .int .i64 s.Lease.Epoch, .int .i64 s.Lease.Until] := Blk.upd1 (Blk.cast (by exact blkT) (by first | rfl | simp)) X2 (by omega)
   have KR2 : Blk w2 (w.heap.size + 1) 30 #[.int .i64 0, .int .i64 0, .int .i64 0, .int .i64 0, .int .i64 0] := Blk.upd1 (Blk.cast (by exact blkT) (by first | rfl | simp)) X2 (by omega)
   have Op2 : OwnI M 157 2 w2 (.slice a2 n2 k2) (flPair s.Pairs) := OwnI.drawn (by exact ownT) X2 (by omega)
   have Oj2 : OwnI M 142 5 w2 (.slice a3 n3 k3) (flJob s.Jobs) := OwnI.drawn (by exact ownT) X2 (by omega)
   clear X2
   clear CS1 FS1 LS1 CR1 FR1 LR1
   have CS2 := KS2.cell; have FS2 := KS2.frozen; have LS2 := KS2.lt
   have CR2 := KR2.cell; have FR2 := KR2.frozen; have LR2 := KR2.lt
   refine hKz.out _ _ (by (try dsimp only); exact ⟨(by exact updT), (by exact curT), (Blk.cast (by exact blkT) setsT)⟩) (fun hHeld => ?_)
   clear hKz Kz
   (try simp only [redA, Act.put])
   refine wpAnyH_take (i := 2) (v := ?_) rfl (by kernel_rfl) (by kernel_rfl) (by kernel_rfl) (fun _ _ _ h => h) (Or.inl ⟨by rfl, ?_⟩) (by assumption) ?_
   rotate_left
   focus (intro w hSw; (try dsimp only at hSw); go_simp <;> with_reducible rfl)
   (try simp only [redA, Act.put])
   refine wpAnyH_ready (rs := [6]) (by kernel_rfl) (by simp) ?_
   refine AllReadyH.cons rfl (fun Kz hKz => ?_) AllReadyH.nil
   (try simp only [redA])
   go_simp
   go_at_call 30
   refine (l1Below_c (show Cur B _ g from by exact curT) 12).mono ?_
   rintro e w3 ⟨_, rfl, X3, hc3, x2, rfl, px2, qx2, rx2⟩
   have hz3 := X3.size; (try simp only [szA] at hz3)
   have E3 : Upd w w3 [g] := Upd.trans (by exact updT) X3
   have KS3 : Blk w3 w.heap.size 63 #[.int .i64 s.Index, .int .i64 s.Time, .slice a2 n2 k2, .slice a3 n3 k3, .int .i64 s.Lease.Holder, .int .i64 s.Lease.Epoch, .int .i64 s.Lease.Until] := Blk.upd1 (Blk.cast (by exact blkT) (by first | rfl | simp)) X3 (by omega)
   have KR3 : Blk w3 (w.heap.size + 1) 30 #[.int .i64 0, .int .i64 0, .int .i64 0, .int .i64 0, .int .i64 0] := Blk.upd1 (Blk.cast (by exact blkT) (by first | rfl | simp)) X3 (by omega)
   have Op3 : OwnI M 157 2 w3 (.slice a2 n2 k2) (flPair s.Pairs) := OwnI.drawn (by exact ownT) X3 (by omega)
   have Oj3 : OwnI M 142 5 w3 (.slice a3 n3 k3) (flJob s.Jobs) := OwnI.drawn (by exact ownT) X3 (by omega)
   clear X3
   clear CS2 FS2 LS2 CR2 FR2 LR2
   have CS3 := KS3.cell; have FS3 := KS3.frozen; have LS3 := KS3.lt
   have CR3 := KR3.cell; have FR3 := KR3.frozen; have LR3 := KR3.lt
   refine hKz.out _ _ (by (try dsimp only); exact ⟨(by exact updT), (by exact curT), (Blk.cast (by exact blkT) setsT)⟩) (fun hHeld => ?_)
   clear hKz Kz
   (try simp only [redA, Act.put])
   refine wpAnyH_take (i := 7) (v := ?_) rfl (by kernel_rfl) (by kernel_rfl) (by kernel_rfl) (fun _ _ _ h => h) (Or.inl ⟨by rfl, ?_⟩) (by assumption) ?_
   rotate_left
   focus (intro w hSw; (try dsimp only at hSw); go_simp <;> with_reducible rfl)
   (try simp only [redA, Act.put])
   refine wpAnyH_ready (rs := [9]) (by kernel_rfl) (by simp) ?_
   refine AllReadyH.cons rfl (fun Kz hKz => ?_) AllReadyH.nil
   (try simp only [redA])
   go_simp
   go_at_call 30
   refine (l1Below_c (show Cur B _ g from by exact curT) 5).mono ?_
   rintro e w4 ⟨_, rfl, X4, hc4, x3, rfl, px3, qx3, rx3⟩
   have hz4 := X4.size; (try simp only [szA] at hz4)
   have E4 : Upd w w4 [g] := Upd.trans (by exact updT) X4
   have KS4 : Blk w4 w.heap.size 63 #[.int .i64 s.Index, .int .i64 s.Time, .slice a2 n2 k2, .slice a3 n3 k3, .int .i64 s.Lease.Holder, .int .i64 s.Lease.Epoch, .int .i64 s.Lease.Until] := Blk.upd1 (Blk.cast (by exact blkT) (by first | rfl | simp)) X4 (by omega)
   have KR4 : Blk w4 (w.heap.size + 1) 30 #[.int .i64 0, .int .i64 0, .int .i64 0, .int .i64 0, .int .i64 0] := Blk.upd1 (Blk.cast (by exact blkT) (by first | rfl | simp)) X4 (by omega)
   have Op4 : OwnI M 157 2 w4 (.slice a2 n2 k2) (flPair s.Pairs) := OwnI.drawn (by exact ownT) X4 (by omega)
   have Oj4 : OwnI M 142 5 w4 (.slice a3 n3 k3) (flJob s.Jobs) := OwnI.drawn (by exact ownT) X4 (by omega)
   clear X4
   clear CS3 FS3 LS3 CR3 FR3 LR3
   have CS4 := KS4.cell; have FS4 := KS4.frozen; have LS4 := KS4.lt
   have CR4 := KR4.cell; have FR4 := KR4.frozen; have LR4 := KR4.lt
   refine hKz.out _ _ (by (try dsimp only); exact ⟨(by exact updT), (by exact curT), (Blk.cast (by exact blkT) setsT)⟩) (fun hHeld => ?_)
   clear hKz Kz
   (try simp only [redA, Act.put])
   refine wpAnyH_ready (rs := [11]) (by kernel_rfl) (by simp) ?_
   refine AllReadyH.cons rfl (fun Kz hKz => ?_) AllReadyH.nil
   (try simp only [redA])
   go_simp
   go_at_call 30
   refine (l1Below_c (show Cur B _ g from by exact curT) 9).mono ?_
   rintro e w5 ⟨_, rfl, X5, hc5, x4, rfl, px4, qx4, rx4⟩
   have hz5 := X5.size; (try simp only [szA] at hz5)
   have E5 : Upd w w5 [g] := Upd.trans (by exact updT) X5
   have KS5 : Blk w5 w.heap.size 63 #[.int .i64 s.Index, .int .i64 s.Time, .slice a2 n2 k2, .slice a3 n3 k3, .int .i64 s.Lease.Holder, .int .i64 s.Lease.Epoch, .int .i64 s.Lease.Until] := Blk.upd1 (Blk.cast (by exact blkT) (by first | rfl | simp)) X5 (by omega)
   have KR5 : Blk w5 (w.heap.size + 1) 30 #[.int .i64 0, .int .i64 0, .int .i64 0, .int .i64 0, .int .i64 0] := Blk.upd1 (Blk.cast (by exact blkT) (by first | rfl | simp)) X5 (by omega)
   have Op5 : OwnI M 157 2 w5 (.slice a2 n2 k2) (flPair s.Pairs) := OwnI.drawn (by exact ownT) X5 (by omega)
   have Oj5 : OwnI M 142 5 w5 (.slice a3 n3 k3) (flJob s.Jobs) := OwnI.drawn (by exact ownT) X5 (by omega)
   clear X5
   clear CS4 FS4 LS4 CR4 FR4 LR4
   have CS5 := KS5.cell; have FS5 := KS5.frozen; have LS5 := KS5.lt
   have CR5 := KR5.cell; have FR5 := KR5.frozen; have LR5 := KR5.lt
   refine hKz.out _ _ (by (try dsimp only); exact ⟨(by exact updT), (by exact curT), (Blk.cast (by exact blkT) setsT)⟩) (fun hHeld => ?_)
   clear hKz Kz
   (try simp only [redA, Act.put])
   refine wpAnyH_take (i := 12) (v := ?_) rfl (by kernel_rfl) (by kernel_rfl) (by kernel_rfl) (fun _ _ _ h => h) (Or.inl ⟨by rfl, ?_⟩) (by assumption) ?_
   rotate_left
   focus (intro w hSw; (try dsimp only at hSw); go_simp <;> with_reducible rfl)
   (try simp only [redA, Act.put])
   refine wpAnyH_take (i := 13) (v := ?_) rfl (by kernel_rfl) (by kernel_rfl) (by kernel_rfl) (fun _ _ _ h => h) (Or.inl ⟨by rfl, ?_⟩) (by assumption) ?_
   rotate_left
   focus (intro w hSw; (try dsimp only at hSw); go_simp <;> with_reducible rfl)
   (try simp only [redA, Act.put])
   refine wpAnyH_ready (rs := [14]) (by kernel_rfl) (by simp) ?_
   refine AllReadyH.cons rfl (fun Kz hKz => ?_) AllReadyH.nil
   (try simp only [redA])
   go_simp
   refine hKz.out _ _ (by (try dsimp only); exact ⟨(by exact updT), (by exact curT), (Blk.cast (by exact blkT) setsT)⟩) (fun hHeld => ?_)
   clear hKz Kz
   (try simp only [redA, Act.put])
   refine wpAnyH_done (by kernel_rfl) ?_ _
   go_wp2_with fail
   refine bodyPost_ret (by simp [results, Tryz.results77, go_sem, CS5, FS5, LS5, CR5, FR5, LR5]; try rfl) rfl ?_
   exact ⟨_, rfl, by exact updT, by exact curT, _, _, _, _, _, rfl⟩
 ·
  skip
  obtain rfl | rfl := hway
  all_goals
   go_wp2_with fail
   refine (l1Below_c (show Cur B _ g from by exact curT) 25).mono ?_
   rintro e w2 ⟨_, rfl, X2, hc2, x1, rfl, px1, qx1, rx1⟩
   have hz2 := X2.size; (try simp only [szA] at hz2)
   have E2 : Upd w w2 [g] := Upd.trans (by exact updT) X2
   have KS2 : Blk w2 w.heap.size 63 #[.int .i64 s.Index, .int .i64 s.Time, .slice a2 n2 k2, .slice a3 n3 k3, .int .i64 s.Lease.Holder, .int .i64 s.Lease.Epoch, .int .i64 s.Lease.Until] := Blk.upd1 (Blk.cast (by exact blkT) (by first | rfl | simp)) X2 (by omega)
   have KR2 : Blk w2 (w.heap.size + 1) 30 #[.int .i64 0, .int .i64 0, .int .i64 0, .int .i64 0, .int .i64 0] := Blk.upd1 (Blk.cast (by exact blkT) (by first | rfl | simp)) X2 (by omega)
   have Op2 : OwnI M 157 2 w2 (.slice a2 n2 k2) (flPair s.Pairs) := OwnI.drawn (by exact ownT) X2 (by omega)
   have Oj2 : OwnI M 142 5 w2 (.slice a3 n3 k3) (flJob s.Jobs) := OwnI.drawn (by exact ownT) X2 (by omega)
   clear X2
   clear CS1 FS1 LS1 CR1 FR1 LR1
   have CS2 := KS2.cell; have FS2 := KS2.frozen; have LS2 := KS2.lt
   have CR2 := KR2.cell; have FR2 := KR2.frozen; have LR2 := KR2.lt
   have qx1 := qx1 (by decide); clear rx1
   go_wp2_with fail
   refine bodyPost_ret (by simp [results, Tryz.results77, go_sem, CS2, FS2, LS2, CR2, FR2, LR2]; try rfl) rfl ?_
   exact ⟨_, rfl, by exact updT, by exact curT, _, _, _, _, _, rfl⟩
 ·
  skip
  have hb0 : (x0 == 0) = false := by simp; omega
  have hb1 : (x0 == 1) = false := by simp; omega
  have hb2 : (x0 == 2) = false := by simp; omega
  have hb3 : (x0 == 3) = false := by simp; omega
  have hb4 : (x0 == 4) = false := by simp; omega
  have hb5 : (x0 == 5) = false := by simp; omega
  have hb6 : (x0 == 6) = false := by simp; omega
  have hb7 : (x0 == 7) = false := by simp; omega
  have hb8 : (x0 == 8) = false := by simp; omega
  go_wp2_with fail
  go_cut [7] (fun cx0 wx => ∃ gg : Nat, ∃ x1 : Int, cx0 = .pointer (some ⟨gg, 0, none⟩) ∧ w1.heap.size ≤ gg ∧ Blk wx gg 30 #[.int .i64 4, .int .i64 x1, .int .i64 s.Lease.Epoch, .int .i64 0, .int .i64 0] ∧ Upd w wx [g] ∧ Cur B wx g ∧ Blk wx w.heap.size 63 #[.int .i64 s.Index, .int .i64 s.Time, .slice a2 n2 k2, .slice a3 n3 k3, .int .i64 s.Lease.Holder, .int .i64 s.Lease.Epoch, .int .i64 s.Lease.Until] ∧ Blk wx (w.heap.size + 1) 30 #[.int .i64 0, .int .i64 0, .int .i64 0, .int .i64 0, .int .i64 0] ∧ OwnI M 157 2 wx (.slice a2 n2 k2) (flPair s.Pairs) ∧ OwnI M 142 5 wx (.slice a3 n3 k3) (flJob s.Jobs))
  case first =>
   refine wp_region_held_drew (S := fun w' => Upd w w' [g] ∧ Cur B w' g ∧ Blk w' w.heap.size 63 #[.int .i64 s.Index, .int .i64 s.Time, .slice a2 n2 k2, .slice a3 n3 k3, .int .i64 s.Lease.Holder, .int .i64 s.Lease.Epoch, .int .i64 s.Lease.Until]) (by kernel_rfl) (by (try dsimp only); exact ⟨(by exact updT), (by exact curT), (Blk.cast (by exact blkT) setsT)⟩) (fun hHeld => ?_)
   refine wpAnyH_take (i := 0) (v := ?_) rfl (by kernel_rfl) (by kernel_rfl) (by kernel_rfl) (fun _ _ _ h => h) (Or.inl ⟨by rfl, ?_⟩) (by assumption) ?_
   rotate_left
   focus (intro w hSw; (try dsimp only at hSw); go_simp <;> with_reducible rfl)
   (try simp only [redA, Act.put])
   refine wpAnyH_take (i := 3) (v := ?_) rfl (by kernel_rfl) (by kernel_rfl) (by kernel_rfl) (fun _ _ _ h => h) (Or.inl ⟨by rfl, ?_⟩) (by assumption) ?_
   rotate_left
   focus (intro w hSw; (try dsimp only at hSw); go_simp <;> with_reducible rfl)
   (try simp only [redA, Act.put])
   refine wpAnyH_take (i := 4) (v := ?_) rfl (by kernel_rfl) (by kernel_rfl) (by kernel_rfl) (fun _ _ _ h => h) (Or.inl ⟨by rfl, ?_⟩) (by assumption) ?_
   rotate_left
   focus (intro w hSw; (try dsimp only at hSw); go_simp <;> with_reducible rfl)
   (try simp only [redA, Act.put])
   refine wpAnyH_take (i := 5) (v := ?_) rfl (by kernel_rfl) (by kernel_rfl) (by kernel_rfl) (fun _ _ _ h => h) (Or.inl ⟨by rfl, ?_⟩) (by assumption) ?_
   rotate_left
   focus (intro w hSw; (try dsimp only at hSw); have hq := hSw.2.2.cell; go_simp <;> with_reducible rfl)
   (try simp only [redA, Act.put])
   refine wpAnyH_ready (rs := [1, 7]) (by kernel_rfl) (by simp) ?_
   refine AllReadyH.cons rfl (fun Kz hKz => ?_) (AllReadyH.cons rfl (fun Kz hKz => ?_) AllReadyH.nil)
   ·
    skip
    (try simp only [redA])
    go_simp
    go_at_call 30
    refine (l1Below_c (show Cur B _ g from by exact curT) 9).mono ?_
    rintro e w2 ⟨_, rfl, X2, hc2, x1, rfl, px1, qx1, rx1⟩
    have hz2 := X2.size; (try simp only [szA] at hz2)
    have E2 : Upd w w2 [g] := Upd.trans (by exact updT) X2
    have KS2 : Blk w2 w.heap.size 63 #[.int .i64 s.Index, .int .i64 s.Time, .slice a2 n2 k2, .slice a3 n3 k3, .int .i64 s.Lease.Holder, .int .i64 s.Lease.Epoch, .int .i64 s.Lease.Until] := Blk.upd1 (Blk.cast (by exact blkT) (by first | rfl | simp)) X2 (by omega)
    have KR2 : Blk w2 (w.heap.size + 1) 30 #[.int .i64 0, .int .i64 0, .int .i64 0, .int .i64 0, .int .i64 0] := Blk.upd1 (Blk.cast (by exact blkT) (by first | rfl | simp)) X2 (by omega)
    have Op2 : OwnI M 157 2 w2 (.slice a2 n2 k2) (flPair s.Pairs) := OwnI.drawn (by first | (with_reducible exact Op1) | (exact ownT)) X2 (by omega)
    have Oj2 : OwnI M 142 5 w2 (.slice a3 n3 k3) (flJob s.Jobs) := OwnI.drawn (by first | (with_reducible exact Oj1) | (exact ownT)) X2 (by omega)
    clear X2
    clear CS1 FS1 LS1 CR1 FR1 LR1
    have CS2 := KS2.cell; have FS2 := KS2.frozen; have LS2 := KS2.lt
    have CR2 := KR2.cell; have FR2 := KR2.frozen; have LR2 := KR2.lt
    refine hKz.out _ _ (by (try dsimp only); exact ⟨(by exact updT), (by exact curT), (Blk.cast (by exact blkT) setsT)⟩) (fun hHeld => ?_)
    clear hKz Kz
    (try simp only [redA, Act.put])
    refine wpAnyH_take (i := 2) (v := ?_) rfl (by kernel_rfl) (by kernel_rfl) (by kernel_rfl) (fun _ _ _ h => h) (Or.inl ⟨by rfl, ?_⟩) (by assumption) ?_
    rotate_left
    focus (intro w hSw; (try dsimp only at hSw); go_simp <;> with_reducible rfl)
    (try simp only [redA, Act.put])
    refine wpAnyH_take (i := 6) (v := ?_) rfl (by kernel_rfl) (by kernel_rfl) (by kernel_rfl) (fun _ _ _ h => h) (Or.inl ⟨by rfl, ?_⟩) (by assumption) ?_
    rotate_left
    focus (intro w hSw; (try dsimp only at hSw); go_simp <;> with_reducible rfl)
    (try simp only [redA, Act.put])
    refine wpAnyH_ready (rs := [7]) (by kernel_rfl) (by simp) ?_
    refine AllReadyH.cons rfl (fun Kz hKz => ?_) AllReadyH.nil
    (try simp only [redA])
    go_simp
    refine hKz.out _ _ (by (try dsimp only); exact ⟨(by exact updT), (by exact curT), (Blk.cast (by exact blkT) setsT)⟩) (fun hHeld => ?_)
    clear hKz Kz
    (try simp only [redA, Act.put])
    refine wpAnyH_ready (rs := [8]) (by kernel_rfl) (by simp) ?_
    refine AllReadyH.cons rfl (fun Kz hKz => ?_) AllReadyH.nil
    (try simp only [redA])
    go_simp
    refine hKz.out _ _ (by (try dsimp only); exact ⟨(by exact updT), (by exact curT), (Blk.cast (by exact blkT) setsT)⟩) (fun hHeld => ?_)
    clear hKz Kz
    (try simp only [redA, Act.put])
    refine wpAnyH_done (by kernel_rfl) ?_ _
    go_wp2_with fail
    go_meet
    case rel => exact ⟨_, _, (by first | rfl | trivial), (by first | omega | (simp only [World.size_alloc, size_drew]; omega)), (Blk.cast (by exact blkT) setsT), (by exact updT), (by exact curT), (Blk.cast (by exact blkT) setsT), (Blk.cast (by exact blkT) setsT), (by first | (with_reducible exact Op2) | (refine OwnI.drawn Op2 ?_ (by omega); (exact updT); done)), (by first | (with_reducible exact Oj2) | (refine OwnI.drawn Oj2 ?_ (by omega); (exact updT); done))⟩
   ·
    skip
    (try simp only [redA])
    go_simp
    refine hKz.out _ _ (by (try dsimp only); exact ⟨(by exact updT), (by exact curT), (Blk.cast (by exact blkT) setsT)⟩) (fun hHeld => ?_)
    clear hKz Kz
    (try simp only [redA, Act.put])
    refine wpAnyH_ready (rs := [1]) (by kernel_rfl) (by simp) ?_
    refine AllReadyH.cons rfl (fun Kz hKz => ?_) AllReadyH.nil
    (try simp only [redA])
    go_simp
    go_at_call 30
    refine (l1Below_c (show Cur B _ g from by exact curT) 9).mono ?_
    rintro e w2 ⟨_, rfl, X2, hc2, x1, rfl, px1, qx1, rx1⟩
    have hz2 := X2.size; (try simp only [szA] at hz2)
    have E2 : Upd w w2 [g] := Upd.trans (by exact updT) X2
    have KS2 : Blk w2 w.heap.size 63 #[.int .i64 s.Index, .int .i64 s.Time, .slice a2 n2 k2, .slice a3 n3 k3, .int .i64 s.Lease.Holder, .int .i64 s.Lease.Epoch, .int .i64 s.Lease.Until] := Blk.upd1 (Blk.cast (by exact blkT) (by first | rfl | simp)) X2 (by omega)
    have KR2 : Blk w2 (w.heap.size + 1) 30 #[.int .i64 0, .int .i64 0, .int .i64 0, .int .i64 0, .int .i64 0] := Blk.upd1 (Blk.cast (by exact blkT) (by first | rfl | simp)) X2 (by omega)
    have KL2 : Blk w2 w1.heap.size 30 #[.int .i64 0, .int .i64 0, .int .i64 0, .int .i64 0, .int .i64 0] := Blk.upd1 (Blk.cast (by exact blkT) (by first | rfl | simp)) X2 (by omega)
    have Op2 : OwnI M 157 2 w2 (.slice a2 n2 k2) (flPair s.Pairs) := OwnI.drawn (by first | (with_reducible exact Op1) | (refine OwnI.updX Op1 KL1 (by decide) ?_; (exact updT); done) | (exact ownT)) X2 (by omega)
    have Oj2 : OwnI M 142 5 w2 (.slice a3 n3 k3) (flJob s.Jobs) := OwnI.drawn (by first | (with_reducible exact Oj1) | (refine OwnI.updX Oj1 KL1 (by decide) ?_; (exact updT); done) | (exact ownT)) X2 (by omega)
    clear X2
    clear CS1 FS1 LS1 CR1 FR1 LR1
    have CS2 := KS2.cell; have FS2 := KS2.frozen; have LS2 := KS2.lt
    have CR2 := KR2.cell; have FR2 := KR2.frozen; have LR2 := KR2.lt
    have CL2 := KL2.cell; have FL2 := KL2.frozen; have LL2 := KL2.lt
    refine hKz.out _ _ (by (try dsimp only); exact ⟨(by exact updT), (by exact curT), (Blk.cast (by exact blkT) setsT)⟩) (fun hHeld => ?_)
    clear hKz Kz
    (try simp only [redA, Act.put])
    refine wpAnyH_take (i := 2) (v := ?_) rfl (by kernel_rfl) (by kernel_rfl) (by kernel_rfl) (fun _ _ _ h => h) (Or.inl ⟨by rfl, ?_⟩) (by assumption) ?_
    rotate_left
    focus (intro w hSw; (try dsimp only at hSw); go_simp <;> with_reducible rfl)
    (try simp only [redA, Act.put])
    refine wpAnyH_take (i := 6) (v := ?_) rfl (by kernel_rfl) (by kernel_rfl) (by kernel_rfl) (fun _ _ _ h => h) (Or.inl ⟨by rfl, ?_⟩) (by assumption) ?_
    rotate_left
    focus (intro w hSw; (try dsimp only at hSw); go_simp <;> with_reducible rfl)
    (try simp only [redA, Act.put])
    refine wpAnyH_ready (rs := [8]) (by kernel_rfl) (by simp) ?_
    refine AllReadyH.cons rfl (fun Kz hKz => ?_) AllReadyH.nil
    (try simp only [redA])
    go_simp
    refine hKz.out _ _ (by (try dsimp only); exact ⟨(by exact updT), (by exact curT), (Blk.cast (by exact blkT) setsT)⟩) (fun hHeld => ?_)
    clear hKz Kz
    (try simp only [redA, Act.put])
    refine wpAnyH_done (by kernel_rfl) ?_ _
    go_wp2_with fail
    go_meet
    case rel => exact ⟨_, _, (by first | rfl | trivial), (by first | omega | (simp only [World.size_alloc, size_drew]; omega)), (Blk.cast (by exact blkT) setsT), (by exact updT), (by exact curT), (Blk.cast (by exact blkT) setsT), (Blk.cast (by exact blkT) setsT), (by first | (with_reducible exact Op2) | (refine OwnI.drawn Op2 ?_ (by omega); (exact updT); done) | (refine OwnI.updX Op2 KL2 (by decide) ?_; (exact updT); done)), (by first | (with_reducible exact Oj2) | (refine OwnI.drawn Oj2 ?_ (by omega); (exact updT); done) | (refine OwnI.updX Oj2 KL2 (by decide) ?_; (exact updT); done))⟩
  case rest =>
   revert wc; intro w2 hcut
   obtain ⟨gg, x1, rfl, hgg, KL2, E2, hc2, KS2, KR2, Op2, Oj2⟩ := hcut
   have hz2 := E2.size
   clear CS1 FS1 LS1 CR1 FR1 LR1
   have CS2 := KS2.cell; have FS2 := KS2.frozen; have LS2 := KS2.lt
   have CR2 := KR2.cell; have FR2 := KR2.frozen; have LR2 := KR2.lt
   have CL2 := KL2.cell; have FL2 := KL2.frozen; have LL2 := KL2.lt
   go_wp2_with fail
   refine (sOpenJobs_k _ _ s.Jobs (OwnI.ints (show OwnI M 142 5 _ _ (flJob s.Jobs) from by exact ownT))).mono ?_
   rintro e w3 ⟨_, rfl, hx3, Od3⟩
   have hz3 := hx3.size; (try simp only [szA] at hz3)
   have E3 : Upd w w3 [g] := Upd.ext (by exact updT) hx3
   have hc3 : Cur B w3 g := Cur.ext (by exact curT) hx3
   have KS3 : Blk w3 w.heap.size 63 #[.int .i64 s.Index, .int .i64 s.Time, .slice a2 n2 k2, .slice a3 n3 k3, .int .i64 s.Lease.Holder, .int .i64 s.Lease.Epoch, .int .i64 s.Lease.Until] := Blk.ext (Blk.cast (by exact blkT) (by first | rfl | simp)) hx3
   have KR3 : Blk w3 (w.heap.size + 1) 30 #[.int .i64 0, .int .i64 0, .int .i64 0, .int .i64 0, .int .i64 0] := Blk.ext (Blk.cast (by exact blkT) (by first | rfl | simp)) hx3
   have KL3 : Blk w3 gg 30 #[.int .i64 4, .int .i64 x1, .int .i64 s.Lease.Epoch, .int .i64 0, .int .i64 0] := Blk.ext (Blk.cast (by exact blkT) (by first | rfl | simp)) hx3
   have Op3 : OwnI M 157 2 w3 (.slice a2 n2 k2) (flPair s.Pairs) := OwnI.ext1 (by first | (with_reducible exact Op2) | (refine OwnI.updX Op2 KL2 (by decide) ?_; (exact updT); done) | (exact ownT)) hx3
   have Oj3 : OwnI M 142 5 w3 (.slice a3 n3 k3) (flJob s.Jobs) := OwnI.ext1 (by first | (with_reducible exact Oj2) | (refine OwnI.updX Oj2 KL2 (by decide) ?_; (exact updT); done) | (exact ownT)) hx3
   clear hx3
   clear CS2 FS2 LS2 CR2 FR2 LR2 CL2 FL2 LL2
   have CS3 := KS3.cell; have FS3 := KS3.frozen; have LS3 := KS3.lt
   have CR3 := KR3.cell; have FR3 := KR3.frozen; have LR3 := KR3.lt
   have CL3 := KL3.cell; have FL3 := KL3.frozen; have LL3 := KL3.lt
   obtain ⟨q, hq⟩ : ∃ q, q = openD s.Jobs := ⟨_, rfl⟩
   rw [← hq] at Od3; clear hq
   obtain ⟨ta, tn, tc, rfl, hl0, hcc, hm0, hor⟩ := Own.open_ Od3
   have htn : tn = q.length := by simp only [List.length_map, length_dues] at hl0; omega
   subst htn; clear hl0
   rcases Nat.eq_zero_or_pos q.length with h00 | h00
   ·
    skip
    obtain rfl := List.length_eq_zero_iff.1 h00
    go_wp2_with fail
    refine (l1Once_c (show Cur B _ g from by exact curT) 8).mono ?_
    rintro e w4 ⟨_, rfl, X4, hc4, b8, rfl⟩
    have hz4 := X4.size; (try simp only [szA] at hz4)
    have E4 : Upd w w4 [g] := Upd.trans (by exact updT) X4
    have KS4 : Blk w4 w.heap.size 63 #[.int .i64 s.Index, .int .i64 s.Time, .slice a2 n2 k2, .slice a3 n3 k3, .int .i64 s.Lease.Holder, .int .i64 s.Lease.Epoch, .int .i64 s.Lease.Until] := Blk.upd1 (Blk.cast (by exact blkT) (by first | rfl | simp)) X4 (by omega)
    have KR4 : Blk w4 (w.heap.size + 1) 30 #[.int .i64 0, .int .i64 0, .int .i64 0, .int .i64 0, .int .i64 0] := Blk.upd1 (Blk.cast (by exact blkT) (by first | rfl | simp)) X4 (by omega)
    have KL4 : Blk w4 gg 30 #[.int .i64 4, .int .i64 x1, .int .i64 s.Lease.Epoch, .int .i64 0, .int .i64 0] := Blk.upd1 (Blk.cast (by exact blkT) (by first | rfl | simp)) X4 (by omega)
    have Op4 : OwnI M 157 2 w4 (.slice a2 n2 k2) (flPair s.Pairs) := OwnI.drawn (by first | (with_reducible exact Op3) | (refine OwnI.updX Op3 KL3 (by decide) ?_; (exact updT); done) | (exact ownT)) X4 (by omega)
    have Oj4 : OwnI M 142 5 w4 (.slice a3 n3 k3) (flJob s.Jobs) := OwnI.drawn (by first | (with_reducible exact Oj3) | (refine OwnI.updX Oj3 KL3 (by decide) ?_; (exact updT); done) | (exact ownT)) X4 (by omega)
    clear X4
    clear CS3 FS3 LS3 CR3 FR3 LR3 CL3 FL3 LL3
    have CS4 := KS4.cell; have FS4 := KS4.frozen; have LS4 := KS4.lt
    have CR4 := KR4.cell; have FR4 := KR4.frozen; have LR4 := KR4.lt
    have CL4 := KL4.cell; have FL4 := KL4.frozen; have LL4 := KL4.lt
    cases b8
    rotate_left
    ·
     skip
     go_wp2_with fail
     refine (l1Below_c (show Cur B _ g from by exact curT) 4).mono ?_
     rintro e w5 ⟨_, rfl, X5, hc5, x9, rfl, px9, qx9, rx9⟩
     have hz5 := X5.size; (try simp only [szA] at hz5)
     have E5 : Upd w w5 [g] := Upd.trans (by exact updT) X5
     have KS5 : Blk w5 w.heap.size 63 #[.int .i64 s.Index, .int .i64 s.Time, .slice a2 n2 k2, .slice a3 n3 k3, .int .i64 s.Lease.Holder, .int .i64 s.Lease.Epoch, .int .i64 s.Lease.Until] := Blk.upd1 (Blk.cast (by exact blkT) (by first | rfl | simp)) X5 (by omega)
     have KR5 : Blk w5 (w.heap.size + 1) 30 #[.int .i64 0, .int .i64 0, .int .i64 0, .int .i64 0, .int .i64 0] := Blk.upd1 (Blk.cast (by exact blkT) (by first | rfl | simp)) X5 (by omega)
     have KL5 : Blk w5 gg 30 #[.int .i64 4, .int .i64 x1, .int .i64 s.Lease.Epoch, .int .i64 0, .int .i64 0] := Blk.upd1 (Blk.cast (by exact blkT) (by first | rfl | simp)) X5 (by omega)
     have Op5 : OwnI M 157 2 w5 (.slice a2 n2 k2) (flPair s.Pairs) := OwnI.drawn (by first | (with_reducible exact Op4) | (refine OwnI.updX Op4 KL4 (by decide) ?_; (exact updT); done) | (exact ownT)) X5 (by omega)
     have Oj5 : OwnI M 142 5 w5 (.slice a3 n3 k3) (flJob s.Jobs) := OwnI.drawn (by first | (with_reducible exact Oj4) | (refine OwnI.updX Oj4 KL4 (by decide) ?_; (exact updT); done) | (exact ownT)) X5 (by omega)
     clear X5
     clear CS4 FS4 LS4 CR4 FR4 LR4 CL4 FL4 LL4
     have CS5 := KS5.cell; have FS5 := KS5.frozen; have LS5 := KS5.lt
     have CR5 := KR5.cell; have FR5 := KR5.frozen; have LR5 := KR5.lt
     have CL5 := KL5.cell; have FL5 := KL5.frozen; have LL5 := KL5.lt
     have qx9 := qx9 (by decide); clear rx9
     go_wp2_with fail
     refine bodyPost_ret (by simp [results, Tryz.results77, go_sem, CS5, FS5, LS5, CR5, FR5, LR5, CL5, FL5, LL5]; try rfl) rfl ?_
     exact ⟨_, rfl, by exact updT, by exact curT, _, _, _, _, _, rfl⟩
    ·
     skip
     go_wp2_with fail
     refine bodyPost_ret (by simp [results, Tryz.results77, go_sem, CS4, FS4, LS4, CR4, FR4, LR4, CL4, FL4, LL4]; try rfl) rfl ?_
     exact ⟨_, rfl, by exact updT, by exact curT, _, _, _, _, _, rfl⟩
   rcases hor with h01 | ⟨X, cur, rfl, hXB, hX, hXs, hXp⟩
   ·
    omega
   have hd : decide (0 < (q.length : Int)) = true := by simp; omega
   go_wp2_with fail
   refine (l1Once_c (show Cur B _ g from by exact curT) 3).mono ?_
   rintro e w4 ⟨_, rfl, X4, hc4, b3, rfl⟩
   have hz4 := X4.size; (try simp only [szA] at hz4)
   have E4 : Upd w w4 [g] := Upd.trans (by exact updT) X4
   have KS4 : Blk w4 w.heap.size 63 #[.int .i64 s.Index, .int .i64 s.Time, .slice a2 n2 k2, .slice a3 n3 k3, .int .i64 s.Lease.Holder, .int .i64 s.Lease.Epoch, .int .i64 s.Lease.Until] := Blk.upd1 (Blk.cast (by exact blkT) (by first | rfl | simp)) X4 (by omega)
   have KR4 : Blk w4 (w.heap.size + 1) 30 #[.int .i64 0, .int .i64 0, .int .i64 0, .int .i64 0, .int .i64 0] := Blk.upd1 (Blk.cast (by exact blkT) (by first | rfl | simp)) X4 (by omega)
   have KL4 : Blk w4 gg 30 #[.int .i64 4, .int .i64 x1, .int .i64 s.Lease.Epoch, .int .i64 0, .int .i64 0] := Blk.upd1 (Blk.cast (by exact blkT) (by first | rfl | simp)) X4 (by omega)
   have Op4 : OwnI M 157 2 w4 (.slice a2 n2 k2) (flPair s.Pairs) := OwnI.drawn (by first | (with_reducible exact Op3) | (refine OwnI.updX Op3 KL3 (by decide) ?_; (exact updT); done) | (exact ownT)) X4 (by omega)
   have Oj4 : OwnI M 142 5 w4 (.slice a3 n3 k3) (flJob s.Jobs) := OwnI.drawn (by first | (with_reducible exact Oj3) | (refine OwnI.updX Oj3 KL3 (by decide) ?_; (exact updT); done) | (exact ownT)) X4 (by omega)
   have Od4 : OwnI w2.heap.size 100 2 w4 (.slice (some ⟨X, 0, none⟩) q.length tc) (dues q) := OwnI.drawn (by first | (with_reducible exact Od3) | (refine OwnI.updX Od3 KL3 (by decide) ?_; (exact updT); done) | (exact ownT)) X4 (by omega)
   clear X4
   clear CS3 FS3 LS3 CR3 FR3 LR3 CL3 FL3 LL3
   have CS4 := KS4.cell; have FS4 := KS4.frozen; have LS4 := KS4.lt
   have CR4 := KR4.cell; have FR4 := KR4.frozen; have LR4 := KR4.lt
   have CL4 := KL4.cell; have FL4 := KL4.frozen; have LL4 := KL4.lt
   cases b3
   rotate_left
   ·
    skip
    go_wp2_with fail
    refine (l1Once_c (show Cur B _ g from by exact curT) 8).mono ?_
    rintro e w5 ⟨_, rfl, X5, hc5, b8, rfl⟩
    have hz5 := X5.size; (try simp only [szA] at hz5)
    have E5 : Upd w w5 [g] := Upd.trans (by exact updT) X5
    have KS5 : Blk w5 w.heap.size 63 #[.int .i64 s.Index, .int .i64 s.Time, .slice a2 n2 k2, .slice a3 n3 k3, .int .i64 s.Lease.Holder, .int .i64 s.Lease.Epoch, .int .i64 s.Lease.Until] := Blk.upd1 (Blk.cast (by exact blkT) (by first | rfl | simp)) X5 (by omega)
    have KR5 : Blk w5 (w.heap.size + 1) 30 #[.int .i64 0, .int .i64 0, .int .i64 0, .int .i64 0, .int .i64 0] := Blk.upd1 (Blk.cast (by exact blkT) (by first | rfl | simp)) X5 (by omega)
    have KL5 : Blk w5 gg 30 #[.int .i64 4, .int .i64 x1, .int .i64 s.Lease.Epoch, .int .i64 0, .int .i64 0] := Blk.upd1 (Blk.cast (by exact blkT) (by first | rfl | simp)) X5 (by omega)
    have Op5 : OwnI M 157 2 w5 (.slice a2 n2 k2) (flPair s.Pairs) := OwnI.drawn (by first | (with_reducible exact Op4) | (refine OwnI.updX Op4 KL4 (by decide) ?_; (exact updT); done) | (exact ownT)) X5 (by omega)
    have Oj5 : OwnI M 142 5 w5 (.slice a3 n3 k3) (flJob s.Jobs) := OwnI.drawn (by first | (with_reducible exact Oj4) | (refine OwnI.updX Oj4 KL4 (by decide) ?_; (exact updT); done) | (exact ownT)) X5 (by omega)
    have Od5 : OwnI w2.heap.size 100 2 w5 (.slice (some ⟨X, 0, none⟩) q.length tc) (dues q) := OwnI.drawn (by first | (with_reducible exact Od4) | (refine OwnI.updX Od4 KL4 (by decide) ?_; (exact updT); done) | (exact ownT)) X5 (by omega)
    clear X5
    clear CS4 FS4 LS4 CR4 FR4 LR4 CL4 FL4 LL4
    have CS5 := KS5.cell; have FS5 := KS5.frozen; have LS5 := KS5.lt
    have CR5 := KR5.cell; have FR5 := KR5.frozen; have LR5 := KR5.lt
    have CL5 := KL5.cell; have FL5 := KL5.frozen; have LL5 := KL5.lt
    cases b8
    rotate_left
    ·
     skip
     go_wp2_with fail
     refine (l1Below_c (show Cur B _ g from by exact curT) 4).mono ?_
     rintro e w6 ⟨_, rfl, X6, hc6, x9, rfl, px9, qx9, rx9⟩
     have hz6 := X6.size; (try simp only [szA] at hz6)
     have E6 : Upd w w6 [g] := Upd.trans (by exact updT) X6
     have KS6 : Blk w6 w.heap.size 63 #[.int .i64 s.Index, .int .i64 s.Time, .slice a2 n2 k2, .slice a3 n3 k3, .int .i64 s.Lease.Holder, .int .i64 s.Lease.Epoch, .int .i64 s.Lease.Until] := Blk.upd1 (Blk.cast (by exact blkT) (by first | rfl | simp)) X6 (by omega)
     have KR6 : Blk w6 (w.heap.size + 1) 30 #[.int .i64 0, .int .i64 0, .int .i64 0, .int .i64 0, .int .i64 0] := Blk.upd1 (Blk.cast (by exact blkT) (by first | rfl | simp)) X6 (by omega)
     have KL6 : Blk w6 gg 30 #[.int .i64 4, .int .i64 x1, .int .i64 s.Lease.Epoch, .int .i64 0, .int .i64 0] := Blk.upd1 (Blk.cast (by exact blkT) (by first | rfl | simp)) X6 (by omega)
     have Op6 : OwnI M 157 2 w6 (.slice a2 n2 k2) (flPair s.Pairs) := OwnI.drawn (by first | (with_reducible exact Op5) | (refine OwnI.updX Op5 KL5 (by decide) ?_; (exact updT); done) | (exact ownT)) X6 (by omega)
     have Oj6 : OwnI M 142 5 w6 (.slice a3 n3 k3) (flJob s.Jobs) := OwnI.drawn (by first | (with_reducible exact Oj5) | (refine OwnI.updX Oj5 KL5 (by decide) ?_; (exact updT); done) | (exact ownT)) X6 (by omega)
     have Od6 : OwnI w2.heap.size 100 2 w6 (.slice (some ⟨X, 0, none⟩) q.length tc) (dues q) := OwnI.drawn (by first | (with_reducible exact Od5) | (refine OwnI.updX Od5 KL5 (by decide) ?_; (exact updT); done) | (exact ownT)) X6 (by omega)
     clear X6
     clear CS5 FS5 LS5 CR5 FR5 LR5 CL5 FL5 LL5
     have CS6 := KS6.cell; have FS6 := KS6.frozen; have LS6 := KS6.lt
     have CR6 := KR6.cell; have FR6 := KR6.frozen; have LR6 := KR6.lt
     have CL6 := KL6.cell; have FL6 := KL6.frozen; have LL6 := KL6.lt
     have qx9 := qx9 (by decide); clear rx9
     go_wp2_with fail
     refine bodyPost_ret (by simp [results, Tryz.results77, go_sem, CS6, FS6, LS6, CR6, FR6, LR6, CL6, FL6, LL6]; try rfl) rfl ?_
     exact ⟨_, rfl, by exact updT, by exact curT, _, _, _, _, _, rfl⟩
    ·
     skip
     go_wp2_with fail
     refine bodyPost_ret (by simp [results, Tryz.results77, go_sem, CS5, FS5, LS5, CR5, FR5, LR5, CL5, FL5, LL5]; try rfl) rfl ?_
     exact ⟨_, rfl, by exact updT, by exact curT, _, _, _, _, _, rfl⟩
   ·
    skip
    obtain ⟨curd4, KXd4⟩ := Own.typed' Od4 (X := X) rfl
    have FXd4 := KXd4.frozen; have LXd4 := KXd4.lt
    obtain ⟨_, _, hsld, _, _, hrec⟩ := Od4.ints.recs (f := DDue.ints) (fun _ => rfl) (by decide)
    obtain ⟨ddd, bbd, ood, hddd, hbad, _, hccd⟩ := hrec 0 (by omega)
    injection hsld with hs1 hs2 hs3
    rw [← hs1] at hbad; injection hbad with hbad; injection hbad with hb1 hb2; subst hb1; subst hb2; clear hs1 hs2 hs3 hrec
    have hced0 := hccd 0 _ (by decide) rfl; (try simp only [Nat.zero_mul, Nat.zero_add, Nat.add_zero] at hced0)
    clear hccd
    go_wp2_with fail
    refine (l1Once_c (show Cur B _ g from by exact curT) 8).mono ?_
    rintro e w5 ⟨_, rfl, X5, hc5, b8, rfl⟩
    have hz5 := X5.size; (try simp only [szA] at hz5)
    have E5 : Upd w w5 [g] := Upd.trans (by exact updT) X5
    have KS5 : Blk w5 w.heap.size 63 #[.int .i64 s.Index, .int .i64 s.Time, .slice a2 n2 k2, .slice a3 n3 k3, .int .i64 s.Lease.Holder, .int .i64 s.Lease.Epoch, .int .i64 s.Lease.Until] := Blk.upd1 (Blk.cast (by exact blkT) (by first | rfl | simp)) X5 (by omega)
    have KR5 : Blk w5 (w.heap.size + 1) 30 #[.int .i64 0, .int .i64 0, .int .i64 0, .int .i64 0, .int .i64 0] := Blk.upd1 (Blk.cast (by exact blkT) (by first | rfl | simp)) X5 (by omega)
    have KL5 : Blk w5 gg 30 #[.int .i64 4, .int .i64 ddd.Id, .int .i64 s.Lease.Epoch, .int .i64 0, .int .i64 0] := Blk.upd1 (Blk.cast (by exact blkT) (by first | rfl | simp)) X5 (by omega)
    have Op5 : OwnI M 157 2 w5 (.slice a2 n2 k2) (flPair s.Pairs) := OwnI.drawn (by first | (with_reducible exact Op4) | (refine OwnI.updX Op4 KL4 (by decide) ?_; (exact updT); done) | (exact ownT)) X5 (by omega)
    have Oj5 : OwnI M 142 5 w5 (.slice a3 n3 k3) (flJob s.Jobs) := OwnI.drawn (by first | (with_reducible exact Oj4) | (refine OwnI.updX Oj4 KL4 (by decide) ?_; (exact updT); done) | (exact ownT)) X5 (by omega)
    have Od5 : OwnI w2.heap.size 100 2 w5 (.slice (some ⟨X, 0, none⟩) q.length tc) (dues q) := OwnI.drawn (by first | (with_reducible exact Od4) | (refine OwnI.updX Od4 KL4 (by decide) ?_; (exact updT); done) | (exact ownT)) X5 (by omega)
    clear X5
    clear CS4 FS4 LS4 CR4 FR4 LR4 CL4 FL4 LL4 FXd4 LXd4 hced0
    have CS5 := KS5.cell; have FS5 := KS5.frozen; have LS5 := KS5.lt
    have CR5 := KR5.cell; have FR5 := KR5.frozen; have LR5 := KR5.lt
    have CL5 := KL5.cell; have FL5 := KL5.frozen; have LL5 := KL5.lt
    cases b8
    rotate_left
    ·
     skip
     go_wp2_with fail
     refine (l1Below_c (show Cur B _ g from by exact curT) 4).mono ?_
     rintro e w6 ⟨_, rfl, X6, hc6, x9, rfl, px9, qx9, rx9⟩
     have hz6 := X6.size; (try simp only [szA] at hz6)
     have E6 : Upd w w6 [g] := Upd.trans (by exact updT) X6
     have KS6 : Blk w6 w.heap.size 63 #[.int .i64 s.Index, .int .i64 s.Time, .slice a2 n2 k2, .slice a3 n3 k3, .int .i64 s.Lease.Holder, .int .i64 s.Lease.Epoch, .int .i64 s.Lease.Until] := Blk.upd1 (Blk.cast (by exact blkT) (by first | rfl | simp)) X6 (by omega)
     have KR6 : Blk w6 (w.heap.size + 1) 30 #[.int .i64 0, .int .i64 0, .int .i64 0, .int .i64 0, .int .i64 0] := Blk.upd1 (Blk.cast (by exact blkT) (by first | rfl | simp)) X6 (by omega)
     have KL6 : Blk w6 gg 30 #[.int .i64 4, .int .i64 ddd.Id, .int .i64 s.Lease.Epoch, .int .i64 0, .int .i64 0] := Blk.upd1 (Blk.cast (by exact blkT) (by first | rfl | simp)) X6 (by omega)
     have Op6 : OwnI M 157 2 w6 (.slice a2 n2 k2) (flPair s.Pairs) := OwnI.drawn (by first | (with_reducible exact Op5) | (refine OwnI.updX Op5 KL5 (by decide) ?_; (exact updT); done) | (exact ownT)) X6 (by omega)
     have Oj6 : OwnI M 142 5 w6 (.slice a3 n3 k3) (flJob s.Jobs) := OwnI.drawn (by first | (with_reducible exact Oj5) | (refine OwnI.updX Oj5 KL5 (by decide) ?_; (exact updT); done) | (exact ownT)) X6 (by omega)
     have Od6 : OwnI w2.heap.size 100 2 w6 (.slice (some ⟨X, 0, none⟩) q.length tc) (dues q) := OwnI.drawn (by first | (with_reducible exact Od5) | (refine OwnI.updX Od5 KL5 (by decide) ?_; (exact updT); done) | (exact ownT)) X6 (by omega)
     clear X6
     clear CS5 FS5 LS5 CR5 FR5 LR5 CL5 FL5 LL5
     have CS6 := KS6.cell; have FS6 := KS6.frozen; have LS6 := KS6.lt
     have CR6 := KR6.cell; have FR6 := KR6.frozen; have LR6 := KR6.lt
     have CL6 := KL6.cell; have FL6 := KL6.frozen; have LL6 := KL6.lt
     have qx9 := qx9 (by decide); clear rx9
     go_wp2_with fail
     refine bodyPost_ret (by simp [results, Tryz.results77, go_sem, CS6, FS6, LS6, CR6, FR6, LR6, CL6, FL6, LL6]; try rfl) rfl ?_
     exact ⟨_, rfl, by exact updT, by exact curT, _, _, _, _, _, rfl⟩
    ·
     skip
     go_wp2_with fail
     refine bodyPost_ret (by simp [results, Tryz.results77, go_sem, CS5, FS5, LS5, CR5, FR5, LR5, CL5, FL5, LL5]; try rfl) rfl ?_
     exact ⟨_, rfl, by exact updT, by exact curT, _, _, _, _, _, rfl⟩

end Go.Proofs.YtcnioiieiebodaaGreat

-- Draws of entries.
set_option linter.unusedSimpArgs false
set_option linter.unusedVariables false
namespace Go.Proofs.YtcnioiieiebodaaGreat
open Go.RowKit Go.G8

set_option maxHeartbeats 4000000 in
set_option maxRecDepth 100000 in
theorem drawEntry_c {B : Nat} {w : World} {g : Nat} (h : Cur B w g) {M : Nat} (hM : g < M) {t : Value} {s : DState} (hs : IsState M w t s) : Calls Tryz.prog 147 #[.pointer (some ⟨g, 0, none⟩), t] w (Dr B w g fun v w' => ∃ ei et ec es ok oa ob oc od : Int, v = .agg #[.int .i64 ei, .int .i64 et, .int .i64 ec, .int .i64 es, .int .i64 ok, .int .i64 oa, .int .i64 ob, .int .i64 oc, .int .i64 od]) := by
 obtain ⟨t2, t3, rfl, h2, h3⟩ := hs
 obtain ⟨a2, n2, k2, rfl⟩ := h2.shape
 obtain ⟨a3, n3, k3, rfl⟩ := h3.shape
 have Op0 := h2; have Oj0 := h3; clear h2 h3
 have hc0 := h; have E0 : Upd w w [g] := Upd.refl _ _
 have hg0 := h.lt
 go_enter Tryz.func147, Tryz.ntmps147
 go_wp2_with fail
 refine (l1Below_c (show Cur B _ g from by exact curT) 4).mono ?_
 rintro e w1 ⟨_, rfl, X1, hc1, x1, rfl, px1, qx1, rx1⟩
 have hz1 := X1.size; (try simp only [szA] at hz1)
 have E1 : Upd w w1 [g] := Upd.trans (by exact updT) X1
 have KS1 : Blk w1 w.heap.size 63 #[.int .i64 s.Index, .int .i64 s.Time, .slice a2 n2 k2, .slice a3 n3 k3, .int .i64 s.Lease.Holder, .int .i64 s.Lease.Epoch, .int .i64 s.Lease.Until] := Blk.upd1 (Blk.cast (by exact blkT) (by first | rfl | simp)) X1 (by omega)
 have KR1 : Blk w1 (w.heap.size + 1) 105 #[.int .i64 0, .int .i64 0, .int .i64 0, .int .i64 0, .int .i64 0, .int .i64 0, .int .i64 0, .int .i64 0, .int .i64 0] := Blk.upd1 (Blk.cast (by exact blkT) (by first | rfl | simp)) X1 (by omega)
 have Op1 : OwnI M 157 2 w1 (.slice a2 n2 k2) (flPair s.Pairs) := OwnI.drawn (by exact ownT) X1 (by omega)
 have Oj1 : OwnI M 142 5 w1 (.slice a3 n3 k3) (flJob s.Jobs) := OwnI.drawn (by exact ownT) X1 (by omega)
 clear X1
 have CS1 := KS1.cell; have FS1 := KS1.frozen; have LS1 := KS1.lt
 have CR1 := KR1.cell; have FR1 := KR1.frozen; have LR1 := KR1.lt
 have qx1 := qx1 (by decide); clear rx1
 go_wp2_with fail
 refine (drawOp_c (show Cur B _ g from by exact curT) hM (s := s) ⟨_, _, rfl, (by exact ownT), (by exact ownT)⟩ _).mono ?_
 rintro e w2 ⟨_, rfl, X2, hc2, v0, v1, v2, v3, v4, rfl⟩
 have hz2 := X2.size; (try simp only [szA] at hz2)
 have E2 : Upd w w2 [g] := Upd.trans (by exact updT) X2
 have KS2 : Blk w2 w.heap.size 63 #[.int .i64 s.Index, .int .i64 s.Time, .slice a2 n2 k2, .slice a3 n3 k3, .int .i64 s.Lease.Holder, .int .i64 s.Lease.Epoch, .int .i64 s.Lease.Until] := Blk.upd1 (Blk.cast (by exact blkT) (by first | rfl | simp)) X2 (by omega)
 have KR2 : Blk w2 (w.heap.size + 1) 105 #[.int .i64 0, .int .i64 0, .int .i64 0, .int .i64 0, .int .i64 0, .int .i64 0, .int .i64 0, .int .i64 0, .int .i64 0] := Blk.upd1 (Blk.cast (by exact blkT) (by first | rfl | simp)) X2 (by omega)
 have Op2 : OwnI M 157 2 w2 (.slice a2 n2 k2) (flPair s.Pairs) := OwnI.drawn (by exact ownT) X2 (by omega)
 have Oj2 : OwnI M 142 5 w2 (.slice a3 n3 k3) (flJob s.Jobs) := OwnI.drawn (by exact ownT) X2 (by omega)
 clear X2
 clear CS1 FS1 LS1 CR1 FR1 LR1
 have CS2 := KS2.cell; have FS2 := KS2.frozen; have LS2 := KS2.lt
 have CR2 := KR2.cell; have FR2 := KR2.frozen; have LR2 := KR2.lt
 go_upto_region 3 with (fail)
 go_cut [26] (fun cx0 wx => ∃ b1 : Bool, cx0 = .bool b1 ∧ Upd w wx [g] ∧ Cur B wx g ∧ Blk wx w.heap.size 63 #[.int .i64 s.Index, .int .i64 s.Time, .slice a2 n2 k2, .slice a3 n3 k3, .int .i64 s.Lease.Holder, .int .i64 s.Lease.Epoch, .int .i64 s.Lease.Until] ∧ Blk wx (w.heap.size + 1) 105 #[.int .i64 0, .int .i64 0, .int .i64 0, .int .i64 0, .int .i64 0, .int .i64 0, .int .i64 0, .int .i64 0, .int .i64 0] ∧ Blk wx w2.heap.size 30 #[.int .i64 v0, .int .i64 v1, .int .i64 v2, .int .i64 v3, .int .i64 v4] ∧ OwnI M 157 2 wx (.slice a2 n2 k2) (flPair s.Pairs) ∧ OwnI M 142 5 wx (.slice a3 n3 k3) (flJob s.Jobs))
 case first =>
  obtain rfl | rfl | ⟨hk4, hk5⟩ : v0 = 4 ∨ v0 = 5 ∨ (v0 ≠ 4 ∧ v0 ≠ 5) := by omega
  ·
   skip
   go_wp2_with fail
   refine (l1Once_c (show Cur B _ g from by exact curT) 2).mono ?_
   rintro e w3 ⟨_, rfl, X3, hc3, b, rfl⟩
   have hz3 := X3.size; (try simp only [szA] at hz3)
   have E3 : Upd w w3 [g] := Upd.trans (by exact updT) X3
   have KS3 : Blk w3 w.heap.size 63 #[.int .i64 s.Index, .int .i64 s.Time, .slice a2 n2 k2, .slice a3 n3 k3, .int .i64 s.Lease.Holder, .int .i64 s.Lease.Epoch, .int .i64 s.Lease.Until] := Blk.upd1 (Blk.cast (by exact blkT) (by first | rfl | simp)) X3 (by omega)
   have KR3 : Blk w3 (w.heap.size + 1) 105 #[.int .i64 0, .int .i64 0, .int .i64 0, .int .i64 0, .int .i64 0, .int .i64 0, .int .i64 0, .int .i64 0, .int .i64 0] := Blk.upd1 (Blk.cast (by exact blkT) (by first | rfl | simp)) X3 (by omega)
   have KO3 : Blk w3 w2.heap.size 30 #[.int .i64 4, .int .i64 v1, .int .i64 v2, .int .i64 v3, .int .i64 v4] := Blk.upd1 (Blk.cast (by exact blkT) (by first | rfl | simp)) X3 (by omega)
   have Op3 : OwnI M 157 2 w3 (.slice a2 n2 k2) (flPair s.Pairs) := OwnI.drawn (by exact ownT) X3 (by omega)
   have Oj3 : OwnI M 142 5 w3 (.slice a3 n3 k3) (flJob s.Jobs) := OwnI.drawn (by exact ownT) X3 (by omega)
   clear X3
   clear CS2 FS2 LS2 CR2 FR2 LR2
   have CS3 := KS3.cell; have FS3 := KS3.frozen; have LS3 := KS3.lt
   have CR3 := KR3.cell; have FR3 := KR3.frozen; have LR3 := KR3.lt
   have CO3 := KO3.cell; have FO3 := KO3.frozen; have LO3 := KO3.lt
   go_wp2_with fail
   go_meet
   case rel => exact ⟨_, (by first | rfl | trivial), (by exact updT), (by exact curT), (Blk.cast (by exact blkT) setsT), (Blk.cast (by exact blkT) setsT), (Blk.cast (by exact blkT) setsT), (by first | (with_reducible exact Op3) | (refine OwnI.drawn Op3 ?_ (by omega); (exact updT); done)), (by first | (with_reducible exact Oj3) | (refine OwnI.drawn Oj3 ?_ (by omega); (exact updT); done))⟩
  ·
   skip
   go_wp2_with fail
   refine (l1Once_c (show Cur B _ g from by exact curT) 2).mono ?_
   rintro e w3 ⟨_, rfl, X3, hc3, b, rfl⟩
   have hz3 := X3.size; (try simp only [szA] at hz3)
   have E3 : Upd w w3 [g] := Upd.trans (by exact updT) X3
   have KS3 : Blk w3 w.heap.size 63 #[.int .i64 s.Index, .int .i64 s.Time, .slice a2 n2 k2, .slice a3 n3 k3, .int .i64 s.Lease.Holder, .int .i64 s.Lease.Epoch, .int .i64 s.Lease.Until] := Blk.upd1 (Blk.cast (by exact blkT) (by first | rfl | simp)) X3 (by omega)
   have KR3 : Blk w3 (w.heap.size + 1) 105 #[.int .i64 0, .int .i64 0, .int .i64 0, .int .i64 0, .int .i64 0, .int .i64 0, .int .i64 0, .int .i64 0, .int .i64 0] := Blk.upd1 (Blk.cast (by exact blkT) (by first | rfl | simp)) X3 (by omega)
   have KO3 : Blk w3 w2.heap.size 30 #[.int .i64 5, .int .i64 v1, .int .i64 v2, .int .i64 v3, .int .i64 v4] := Blk.upd1 (Blk.cast (by exact blkT) (by first | rfl | simp)) X3 (by omega)
   have Op3 : OwnI M 157 2 w3 (.slice a2 n2 k2) (flPair s.Pairs) := OwnI.drawn (by exact ownT) X3 (by omega)
   have Oj3 : OwnI M 142 5 w3 (.slice a3 n3 k3) (flJob s.Jobs) := OwnI.drawn (by exact ownT) X3 (by omega)
   clear X3
   clear CS2 FS2 LS2 CR2 FR2 LR2
   have CS3 := KS3.cell; have FS3 := KS3.frozen; have LS3 := KS3.lt
   have CR3 := KR3.cell; have FR3 := KR3.frozen; have LR3 := KR3.lt
   have CO3 := KO3.cell; have FO3 := KO3.frozen; have LO3 := KO3.lt
   go_wp2_with fail
   go_meet
   case rel => exact ⟨_, (by first | rfl | trivial), (by exact updT), (by exact curT), (Blk.cast (by exact blkT) setsT), (Blk.cast (by exact blkT) setsT), (Blk.cast (by exact blkT) setsT), (by first | (with_reducible exact Op3) | (refine OwnI.drawn Op3 ?_ (by omega); (exact updT); done)), (by first | (with_reducible exact Oj3) | (refine OwnI.drawn Oj3 ?_ (by omega); (exact updT); done))⟩
  ·
   skip
   have hq4 : (v0 == 4) = false := by simp [hk4]
   have hq5 : (v0 == 5) = false := by simp [hk5]
   go_wp2_with fail
   go_meet
   case rel => exact ⟨_, (by first | rfl | trivial), (by exact updT), (by exact curT), (Blk.cast (by exact blkT) setsT), (Blk.cast (by exact blkT) setsT), (Blk.cast (by exact blkT) setsT), (by first | (with_reducible exact Op2) | (refine OwnI.drawn Op2 ?_ (by omega); (exact updT); done)), (by first | (with_reducible exact Oj2) | (refine OwnI.drawn Oj2 ?_ (by omega); (exact updT); done))⟩
 case rest =>
  revert wc; intro w3 hcut
  obtain ⟨b1, rfl, E3, hc3, KS3, KR3, KO3, Op3, Oj3⟩ := hcut
  have hz3 := E3.size
  clear CS2 FS2 LS2 CR2 FR2 LR2
  have CS3 := KS3.cell; have FS3 := KS3.frozen; have LS3 := KS3.lt
  have CR3 := KR3.cell; have FR3 := KR3.frozen; have LR3 := KR3.lt
  have CO3 := KO3.cell; have FO3 := KO3.frozen; have LO3 := KO3.lt
  go_upto_if 26 with (fail)
  go_cut [5] (fun cx0 wx => ∃ cl : Int, cx0 = .int .i64 cl ∧ Upd w wx [g] ∧ Cur B wx g ∧ Blk wx w.heap.size 63 #[.int .i64 s.Index, .int .i64 s.Time, .slice a2 n2 k2, .slice a3 n3 k3, .int .i64 s.Lease.Holder, .int .i64 s.Lease.Epoch, .int .i64 s.Lease.Until] ∧ Blk wx (w.heap.size + 1) 105 #[.int .i64 0, .int .i64 0, .int .i64 0, .int .i64 0, .int .i64 0, .int .i64 0, .int .i64 0, .int .i64 0, .int .i64 0] ∧ Blk wx w2.heap.size 30 #[.int .i64 v0, .int .i64 v1, .int .i64 v2, .int .i64 v3, .int .i64 v4] ∧ OwnI M 157 2 wx (.slice a2 n2 k2) (flPair s.Pairs) ∧ OwnI M 142 5 wx (.slice a3 n3 k3) (flJob s.Jobs))
  case first =>
   cases b1
   rotate_left
   ·
    skip
    go_wp2_with fail
    refine (l1Below_c (show Cur B _ g from by exact curT) 2).mono ?_
    rintro e w4 ⟨_, rfl, X4, hc4, y, rfl, py, qy, ry⟩
    have hz4 := X4.size; (try simp only [szA] at hz4)
    have E4 : Upd w w4 [g] := Upd.trans (by exact updT) X4
    have KS4 : Blk w4 w.heap.size 63 #[.int .i64 s.Index, .int .i64 s.Time, .slice a2 n2 k2, .slice a3 n3 k3, .int .i64 s.Lease.Holder, .int .i64 s.Lease.Epoch, .int .i64 s.Lease.Until] := Blk.upd1 (Blk.cast (by exact blkT) (by first | rfl | simp)) X4 (by omega)
    have KR4 : Blk w4 (w.heap.size + 1) 105 #[.int .i64 0, .int .i64 0, .int .i64 0, .int .i64 0, .int .i64 0, .int .i64 0, .int .i64 0, .int .i64 0, .int .i64 0] := Blk.upd1 (Blk.cast (by exact blkT) (by first | rfl | simp)) X4 (by omega)
    have KO4 : Blk w4 w2.heap.size 30 #[.int .i64 v0, .int .i64 v1, .int .i64 v2, .int .i64 v3, .int .i64 v4] := Blk.upd1 (Blk.cast (by exact blkT) (by first | rfl | simp)) X4 (by omega)
    have Op4 : OwnI M 157 2 w4 (.slice a2 n2 k2) (flPair s.Pairs) := OwnI.drawn (by exact ownT) X4 (by omega)
    have Oj4 : OwnI M 142 5 w4 (.slice a3 n3 k3) (flJob s.Jobs) := OwnI.drawn (by exact ownT) X4 (by omega)
    clear X4
    clear CS3 FS3 LS3 CR3 FR3 LR3 CO3 FO3 LO3
    have CS4 := KS4.cell; have FS4 := KS4.frozen; have LS4 := KS4.lt
    have CR4 := KR4.cell; have FR4 := KR4.frozen; have LR4 := KR4.lt
    have CO4 := KO4.cell; have FO4 := KO4.frozen; have LO4 := KO4.lt
    have qy := qy (by decide); clear ry
    go_wp2_with fail
    go_meet
    case rel => exact ⟨_, (by first | rfl | trivial), (by exact updT), (by exact curT), (Blk.cast (by exact blkT) setsT), (Blk.cast (by exact blkT) setsT), (Blk.cast (by exact blkT) setsT), (by first | (with_reducible exact Op4) | (refine OwnI.drawn Op4 ?_ (by omega); (exact updT); done)), (by first | (with_reducible exact Oj4) | (refine OwnI.drawn Oj4 ?_ (by omega); (exact updT); done))⟩
   ·
    skip
    go_wp2_with fail
    go_meet
    case rel => exact ⟨_, (by first | rfl | trivial), (by exact updT), (by exact curT), (Blk.cast (by exact blkT) setsT), (Blk.cast (by exact blkT) setsT), (Blk.cast (by exact blkT) setsT), (by first | (with_reducible exact Op3) | (refine OwnI.drawn Op3 ?_ (by omega); (exact updT); done)), (by first | (with_reducible exact Oj3) | (refine OwnI.drawn Oj3 ?_ (by omega); (exact updT); done))⟩
  case rest =>
   revert wc; intro w4 hcut
   obtain ⟨cl, rfl, E4, hc4, KS4, KR4, KO4, Op4, Oj4⟩ := hcut
   have hz4 := E4.size
   clear CS3 FS3 LS3 CR3 FR3 LR3 CO3 FO3 LO3
   have CS4 := KS4.cell; have FS4 := KS4.frozen; have LS4 := KS4.lt
   have CR4 := KR4.cell; have FR4 := KR4.frozen; have LR4 := KR4.lt
   have CO4 := KO4.cell; have FO4 := KO4.frozen; have LO4 := KO4.lt
   go_upto_region 5 with (fail)
   go_cut [43] (fun cx0 wx => ∃ b2 : Bool, cx0 = .bool b2 ∧ Upd w wx [g] ∧ Cur B wx g ∧ Blk wx w.heap.size 63 #[.int .i64 s.Index, .int .i64 s.Time, .slice a2 n2 k2, .slice a3 n3 k3, .int .i64 s.Lease.Holder, .int .i64 s.Lease.Epoch, .int .i64 s.Lease.Until] ∧ Blk wx (w.heap.size + 1) 105 #[.int .i64 0, .int .i64 0, .int .i64 0, .int .i64 0, .int .i64 0, .int .i64 0, .int .i64 0, .int .i64 0, .int .i64 0] ∧ Blk wx w2.heap.size 30 #[.int .i64 v0, .int .i64 v1, .int .i64 v2, .int .i64 v3, .int .i64 v4] ∧ OwnI M 157 2 wx (.slice a2 n2 k2) (flPair s.Pairs) ∧ OwnI M 142 5 wx (.slice a3 n3 k3) (flJob s.Jobs))
   case first =>
    by_cases hk4 : v0 = 4
    ·
     skip
     subst hk4
     by_cases hh : 0 < s.Lease.Holder
     ·
      skip
      go_wp2_with fail
      refine (l1Once_c (show Cur B _ g from by exact curT) 4).mono ?_
      rintro e w5 ⟨_, rfl, X5, hc5, b, rfl⟩
      have hz5 := X5.size; (try simp only [szA] at hz5)
      have E5 : Upd w w5 [g] := Upd.trans (by exact updT) X5
      have KS5 : Blk w5 w.heap.size 63 #[.int .i64 s.Index, .int .i64 s.Time, .slice a2 n2 k2, .slice a3 n3 k3, .int .i64 s.Lease.Holder, .int .i64 s.Lease.Epoch, .int .i64 s.Lease.Until] := Blk.upd1 (Blk.cast (by exact blkT) (by first | rfl | simp)) X5 (by omega)
      have KR5 : Blk w5 (w.heap.size + 1) 105 #[.int .i64 0, .int .i64 0, .int .i64 0, .int .i64 0, .int .i64 0, .int .i64 0, .int .i64 0, .int .i64 0, .int .i64 0] := Blk.upd1 (Blk.cast (by exact blkT) (by first | rfl | simp)) X5 (by omega)
      have KO5 : Blk w5 w2.heap.size 30 #[.int .i64 4, .int .i64 v1, .int .i64 v2, .int .i64 v3, .int .i64 v4] := Blk.upd1 (Blk.cast (by exact blkT) (by first | rfl | simp)) X5 (by omega)
      have Op5 : OwnI M 157 2 w5 (.slice a2 n2 k2) (flPair s.Pairs) := OwnI.drawn (by exact ownT) X5 (by omega)
      have Oj5 : OwnI M 142 5 w5 (.slice a3 n3 k3) (flJob s.Jobs) := OwnI.drawn (by exact ownT) X5 (by omega)
      clear X5
      clear CS4 FS4 LS4 CR4 FR4 LR4 CO4 FO4 LO4
      have CS5 := KS5.cell; have FS5 := KS5.frozen; have LS5 := KS5.lt
      have CR5 := KR5.cell; have FR5 := KR5.frozen; have LR5 := KR5.lt
      have CO5 := KO5.cell; have FO5 := KO5.frozen; have LO5 := KO5.lt
      go_wp2_with fail
      go_meet
      case rel => exact ⟨_, (by first | rfl | trivial), (by exact updT), (by exact curT), (Blk.cast (by exact blkT) setsT), (Blk.cast (by exact blkT) setsT), (Blk.cast (by exact blkT) setsT), (by first | (with_reducible exact Op5) | (refine OwnI.drawn Op5 ?_ (by omega); (exact updT); done)), (by first | (with_reducible exact Oj5) | (refine OwnI.drawn Oj5 ?_ (by omega); (exact updT); done))⟩
     ·
      skip
      go_wp2_with fail
      go_meet
      case rel => exact ⟨_, (by first | rfl | trivial), (by exact updT), (by exact curT), (Blk.cast (by exact blkT) setsT), (Blk.cast (by exact blkT) setsT), (Blk.cast (by exact blkT) setsT), (by first | (with_reducible exact Op4) | (refine OwnI.drawn Op4 ?_ (by omega); (exact updT); done)), (by first | (with_reducible exact Oj4) | (refine OwnI.drawn Oj4 ?_ (by omega); (exact updT); done))⟩
    ·
     skip
     have hq4 : (v0 == 4) = false := by simp [hk4]
     go_wp2_with fail
     go_meet
     case rel => exact ⟨_, (by first | rfl | trivial), (by exact updT), (by exact curT), (Blk.cast (by exact blkT) setsT), (Blk.cast (by exact blkT) setsT), (Blk.cast (by exact blkT) setsT), (by first | (with_reducible exact Op4) | (refine OwnI.drawn Op4 ?_ (by omega); (exact updT); done)), (by first | (with_reducible exact Oj4) | (refine OwnI.drawn Oj4 ?_ (by omega); (exact updT); done))⟩
   case rest =>
    revert wc; intro w5 hcut
    obtain ⟨b2, rfl, E5, hc5, KS5, KR5, KO5, Op5, Oj5⟩ := hcut
    have hz5 := E5.size
    clear CS4 FS4 LS4 CR4 FR4 LR4 CO4 FO4 LO4
    have CS5 := KS5.cell; have FS5 := KS5.frozen; have LS5 := KS5.lt
    have CR5 := KR5.cell; have FR5 := KR5.frozen; have LR5 := KR5.lt
    have CO5 := KO5.cell; have FO5 := KO5.frozen; have LO5 := KO5.lt
    go_upto_if 43 with (fail)
    go_cut [5] (fun cx0 wx => ∃ cl2 : Int, cx0 = .int .i64 cl2 ∧ Upd w wx [g] ∧ Cur B wx g ∧ Blk wx w.heap.size 63 #[.int .i64 s.Index, .int .i64 s.Time, .slice a2 n2 k2, .slice a3 n3 k3, .int .i64 s.Lease.Holder, .int .i64 s.Lease.Epoch, .int .i64 s.Lease.Until] ∧ Blk wx (w.heap.size + 1) 105 #[.int .i64 0, .int .i64 0, .int .i64 0, .int .i64 0, .int .i64 0, .int .i64 0, .int .i64 0, .int .i64 0, .int .i64 0] ∧ Blk wx w2.heap.size 30 #[.int .i64 v0, .int .i64 v1, .int .i64 v2, .int .i64 v3, .int .i64 v4] ∧ OwnI M 157 2 wx (.slice a2 n2 k2) (flPair s.Pairs) ∧ OwnI M 142 5 wx (.slice a3 n3 k3) (flJob s.Jobs))
    case first =>
     cases b2
     rotate_left
     ·
      skip
      go_wp2_with fail
      go_meet
      case rel => exact ⟨_, (by first | rfl | trivial), (by exact updT), (by exact curT), (Blk.cast (by exact blkT) setsT), (Blk.cast (by exact blkT) setsT), (Blk.cast (by exact blkT) setsT), (by first | (with_reducible exact Op5) | (refine OwnI.drawn Op5 ?_ (by omega); (exact updT); done)), (by first | (with_reducible exact Oj5) | (refine OwnI.drawn Oj5 ?_ (by omega); (exact updT); done))⟩
     ·
      skip
      go_wp2_with fail
      go_meet
      case rel => exact ⟨_, (by first | rfl | trivial), (by exact updT), (by exact curT), (Blk.cast (by exact blkT) setsT), (Blk.cast (by exact blkT) setsT), (Blk.cast (by exact blkT) setsT), (by first | (with_reducible exact Op5) | (refine OwnI.drawn Op5 ?_ (by omega); (exact updT); done)), (by first | (with_reducible exact Oj5) | (refine OwnI.drawn Oj5 ?_ (by omega); (exact updT); done))⟩
    case rest =>
     revert wc; intro w6 hcut
     obtain ⟨cl2, rfl, E6, hc6, KS6, KR6, KO6, Op6, Oj6⟩ := hcut
     have hz6 := E6.size
     clear CS5 FS5 LS5 CR5 FR5 LR5 CO5 FO5 LO5
     have CS6 := KS6.cell; have FS6 := KS6.frozen; have LS6 := KS6.lt
     have CR6 := KR6.cell; have FR6 := KR6.frozen; have LR6 := KR6.lt
     have CO6 := KO6.cell; have FO6 := KO6.frozen; have LO6 := KO6.lt
     go_upto_region 7 with (fail)
     go_cut [7] (fun cx0 wx => ∃ tm : Int, cx0 = .int .i64 tm ∧ Upd w wx [g] ∧ Cur B wx g ∧ Blk wx w.heap.size 63 #[.int .i64 s.Index, .int .i64 s.Time, .slice a2 n2 k2, .slice a3 n3 k3, .int .i64 s.Lease.Holder, .int .i64 s.Lease.Epoch, .int .i64 s.Lease.Until] ∧ Blk wx (w.heap.size + 1) 105 #[.int .i64 0, .int .i64 0, .int .i64 0, .int .i64 0, .int .i64 0, .int .i64 0, .int .i64 0, .int .i64 0, .int .i64 0] ∧ Blk wx w2.heap.size 30 #[.int .i64 v0, .int .i64 v1, .int .i64 v2, .int .i64 v3, .int .i64 v4] ∧ OwnI M 157 2 wx (.slice a2 n2 k2) (flPair s.Pairs) ∧ OwnI M 142 5 wx (.slice a3 n3 k3) (flJob s.Jobs))
     case first =>
      refine wp_region_held_drew (S := fun w' => Upd w w' [g] ∧ Cur B w' g ∧ Blk w' w.heap.size 63 #[.int .i64 s.Index, .int .i64 s.Time, .slice a2 n2 k2, .slice a3 n3 k3, .int .i64 s.Lease.Holder, .int .i64 s.Lease.Epoch, .int .i64 s.Lease.Until]) (by kernel_rfl) (by (try dsimp only); exact ⟨(by exact updT), (by exact curT), (Blk.cast (by exact blkT) setsT)⟩) (fun hHeld => ?_)
      refine wpAnyH_take (i := 0) (v := ?_) rfl (by kernel_rfl) (by kernel_rfl) (by kernel_rfl) (fun _ _ _ h => h) (Or.inl ⟨by rfl, ?_⟩) (by assumption) ?_
      rotate_left
      focus (intro w hSw; (try dsimp only at hSw); go_simp <;> with_reducible rfl)
      (try simp only [redA, Act.put])
      refine wpAnyH_take (i := 1) (v := ?_) rfl (by kernel_rfl) (by kernel_rfl) (by kernel_rfl) (fun _ _ _ h => h) (Or.inl ⟨by rfl, ?_⟩) (by assumption) ?_
      rotate_left
      focus (intro w hSw; (try dsimp only at hSw); have hq := hSw.2.2.cell; go_simp <;> with_reducible rfl)
      (try simp only [redA, Act.put])
      refine wpAnyH_take (i := 2) (v := ?_) rfl (by kernel_rfl) (by kernel_rfl) (by kernel_rfl) (fun _ _ _ h => h) (Or.inl ⟨by rfl, ?_⟩) (by assumption) ?_
      rotate_left
      focus (intro w hSw; (try dsimp only at hSw); go_simp <;> with_reducible rfl)
      (try simp only [redA, Act.put])
      refine wpAnyH_ready (rs := [3]) (by kernel_rfl) (by simp) ?_
      refine AllReadyH.cons rfl (fun Kz hKz => ?_) AllReadyH.nil
      (try simp only [redA])
      go_simp
      go_at_call 30
      refine (l1Below_c (show Cur B _ g from by exact curT) 6).mono ?_
      rintro e w7 ⟨_, rfl, X7, hc7, z, rfl, pz, qz, rz⟩
      have hz7 := X7.size; (try simp only [szA] at hz7)
      have E7 : Upd w w7 [g] := Upd.trans (by exact updT) X7
      have KS7 : Blk w7 w.heap.size 63 #[.int .i64 s.Index, .int .i64 s.Time, .slice a2 n2 k2, .slice a3 n3 k3, .int .i64 s.Lease.Holder, .int .i64 s.Lease.Epoch, .int .i64 s.Lease.Until] := Blk.upd1 (Blk.cast (by exact blkT) (by first | rfl | simp)) X7 (by omega)
      have KR7 : Blk w7 (w.heap.size + 1) 105 #[.int .i64 0, .int .i64 0, .int .i64 0, .int .i64 0, .int .i64 0, .int .i64 0, .int .i64 0, .int .i64 0, .int .i64 0] := Blk.upd1 (Blk.cast (by exact blkT) (by first | rfl | simp)) X7 (by omega)
      have KO7 : Blk w7 w2.heap.size 30 #[.int .i64 v0, .int .i64 v1, .int .i64 v2, .int .i64 v3, .int .i64 v4] := Blk.upd1 (Blk.cast (by exact blkT) (by first | rfl | simp)) X7 (by omega)
      have Op7 : OwnI M 157 2 w7 (.slice a2 n2 k2) (flPair s.Pairs) := OwnI.drawn (by exact ownT) X7 (by omega)
      have Oj7 : OwnI M 142 5 w7 (.slice a3 n3 k3) (flJob s.Jobs) := OwnI.drawn (by exact ownT) X7 (by omega)
      clear X7
      clear CS6 FS6 LS6 CR6 FR6 LR6 CO6 FO6 LO6
      have CS7 := KS7.cell; have FS7 := KS7.frozen; have LS7 := KS7.lt
      have CR7 := KR7.cell; have FR7 := KR7.frozen; have LR7 := KR7.lt
      have CO7 := KO7.cell; have FO7 := KO7.frozen; have LO7 := KO7.lt
      refine hKz.out _ _ (by (try dsimp only); exact ⟨(by exact updT), (by exact curT), (Blk.cast (by exact blkT) setsT)⟩) (fun hHeld => ?_)
      clear hKz Kz
      (try simp only [redA, Act.put])
      refine wpAnyH_take (i := 4) (v := ?_) rfl (by kernel_rfl) (by kernel_rfl) (by kernel_rfl) (fun _ _ _ h => h) (Or.inl ⟨by rfl, ?_⟩) (by assumption) ?_
      rotate_left
      focus (intro w hSw; (try dsimp only at hSw); go_simp <;> with_reducible rfl)
      (try simp only [redA, Act.put])
      refine wpAnyH_ready (rs := [5]) (by kernel_rfl) (by simp) ?_
      refine AllReadyH.cons rfl (fun Kz hKz => ?_) AllReadyH.nil
      (try simp only [redA])
      go_simp
      refine hKz.out _ _ (by (try dsimp only); exact ⟨(by exact updT), (by exact curT), (Blk.cast (by exact blkT) setsT)⟩) (fun hHeld => ?_)
      clear hKz Kz
      (try simp only [redA, Act.put])
      refine wpAnyH_done (by kernel_rfl) ?_ _
      go_wp2_with fail
      go_meet
      case rel => exact ⟨_, (by first | rfl | trivial), (by exact updT), (by exact curT), (Blk.cast (by exact blkT) setsT), (Blk.cast (by exact blkT) setsT), (Blk.cast (by exact blkT) setsT), (by first | (with_reducible exact Op7) | (refine OwnI.drawn Op7 ?_ (by omega); (exact updT); done)), (by first | (with_reducible exact Oj7) | (refine OwnI.drawn Oj7 ?_ (by omega); (exact updT); done))⟩
     case rest =>
      revert wc; intro w7 hcut
      obtain ⟨tm, rfl, E7, hc7, KS7, KR7, KO7, Op7, Oj7⟩ := hcut
      have hz7 := E7.size
      clear CS6 FS6 LS6 CR6 FR6 LR6 CO6 FO6 LO6
      have CS7 := KS7.cell; have FS7 := KS7.frozen; have LS7 := KS7.lt
      have CR7 := KR7.cell; have FR7 := KR7.frozen; have LR7 := KR7.lt
      have CO7 := KO7.cell; have FO7 := KO7.frozen; have LO7 := KO7.lt
      go_wp2_with fail
      refine (l1Once_c (show Cur B _ g from by exact curT) 10).mono ?_
      rintro e w8 ⟨_, rfl, X8, hc8, b3, rfl⟩
      have hz8 := X8.size; (try simp only [szA] at hz8)
      have E8 : Upd w w8 [g] := Upd.trans (by exact updT) X8
      have KS8 : Blk w8 w.heap.size 63 #[.int .i64 s.Index, .int .i64 s.Time, .slice a2 n2 k2, .slice a3 n3 k3, .int .i64 s.Lease.Holder, .int .i64 s.Lease.Epoch, .int .i64 s.Lease.Until] := Blk.upd1 (Blk.cast (by exact blkT) (by first | rfl | simp)) X8 (by omega)
      have KR8 : Blk w8 (w.heap.size + 1) 105 #[.int .i64 0, .int .i64 0, .int .i64 0, .int .i64 0, .int .i64 0, .int .i64 0, .int .i64 0, .int .i64 0, .int .i64 0] := Blk.upd1 (Blk.cast (by exact blkT) (by first | rfl | simp)) X8 (by omega)
      have KO8 : Blk w8 w2.heap.size 30 #[.int .i64 v0, .int .i64 v1, .int .i64 v2, .int .i64 v3, .int .i64 v4] := Blk.upd1 (Blk.cast (by exact blkT) (by first | rfl | simp)) X8 (by omega)
      have Op8 : OwnI M 157 2 w8 (.slice a2 n2 k2) (flPair s.Pairs) := OwnI.drawn (by exact ownT) X8 (by omega)
      have Oj8 : OwnI M 142 5 w8 (.slice a3 n3 k3) (flJob s.Jobs) := OwnI.drawn (by exact ownT) X8 (by omega)
      clear X8
      clear CS7 FS7 LS7 CR7 FR7 LR7 CO7 FO7 LO7
      have CS8 := KS8.cell; have FS8 := KS8.frozen; have LS8 := KS8.lt
      have CR8 := KR8.cell; have FR8 := KR8.frozen; have LR8 := KR8.lt
      have CO8 := KO8.cell; have FO8 := KO8.frozen; have LO8 := KO8.lt
      go_upto_if 53 with (fail)
      go_cut [7] (fun cx0 wx => ∃ tm2 : Int, cx0 = .int .i64 tm2 ∧ Upd w wx [g] ∧ Cur B wx g ∧ Blk wx w.heap.size 63 #[.int .i64 s.Index, .int .i64 s.Time, .slice a2 n2 k2, .slice a3 n3 k3, .int .i64 s.Lease.Holder, .int .i64 s.Lease.Epoch, .int .i64 s.Lease.Until] ∧ Blk wx (w.heap.size + 1) 105 #[.int .i64 0, .int .i64 0, .int .i64 0, .int .i64 0, .int .i64 0, .int .i64 0, .int .i64 0, .int .i64 0, .int .i64 0] ∧ Blk wx w2.heap.size 30 #[.int .i64 v0, .int .i64 v1, .int .i64 v2, .int .i64 v3, .int .i64 v4] ∧ OwnI M 157 2 wx (.slice a2 n2 k2) (flPair s.Pairs) ∧ OwnI M 142 5 wx (.slice a3 n3 k3) (flJob s.Jobs))
      case first =>
       cases b3
       rotate_left
       ·
        skip
        go_wp2_with fail
        go_meet
        case rel => exact ⟨_, (by first | rfl | trivial), (by exact updT), (by exact curT), (Blk.cast (by exact blkT) setsT), (Blk.cast (by exact blkT) setsT), (Blk.cast (by exact blkT) setsT), (by first | (with_reducible exact Op8) | (refine OwnI.drawn Op8 ?_ (by omega); (exact updT); done)), (by first | (with_reducible exact Oj8) | (refine OwnI.drawn Oj8 ?_ (by omega); (exact updT); done))⟩
       ·
        skip
        go_wp2_with fail
        go_meet
        case rel => exact ⟨_, (by first | rfl | trivial), (by exact updT), (by exact curT), (Blk.cast (by exact blkT) setsT), (Blk.cast (by exact blkT) setsT), (Blk.cast (by exact blkT) setsT), (by first | (with_reducible exact Op8) | (refine OwnI.drawn Op8 ?_ (by omega); (exact updT); done)), (by first | (with_reducible exact Oj8) | (refine OwnI.drawn Oj8 ?_ (by omega); (exact updT); done))⟩
      case rest =>
       revert wc; intro w9 hcut
       obtain ⟨tm2, rfl, E9, hc9, KS9, KR9, KO9, Op9, Oj9⟩ := hcut
       have hz9 := E9.size
       clear CS8 FS8 LS8 CR8 FR8 LR8 CO8 FO8 LO8
       have CS9 := KS9.cell; have FS9 := KS9.frozen; have LS9 := KS9.lt
       have CR9 := KR9.cell; have FR9 := KR9.frozen; have LR9 := KR9.lt
       have CO9 := KO9.cell; have FO9 := KO9.frozen; have LO9 := KO9.lt
       go_upto_region 10 with (fail)
       refine wp_region_held_drew (S := fun w' => Upd w w' [g] ∧ Cur B w' g ∧ Blk w' w.heap.size 63 #[.int .i64 s.Index, .int .i64 s.Time, .slice a2 n2 k2, .slice a3 n3 k3, .int .i64 s.Lease.Holder, .int .i64 s.Lease.Epoch, .int .i64 s.Lease.Until] ∧ Blk w' w2.heap.size 30 #[.int .i64 v0, .int .i64 v1, .int .i64 v2, .int .i64 v3, .int .i64 v4]) (by kernel_rfl) (by (try dsimp only); exact ⟨(by exact updT), (by exact curT), (Blk.cast (by exact blkT) setsT), (Blk.cast (by exact blkT) setsT)⟩) (fun hHeld => ?_)
       refine wpAnyH_take (i := 0) (v := ?_) rfl (by kernel_rfl) (by kernel_rfl) (by kernel_rfl) (fun _ _ _ h => h) (Or.inl ⟨by rfl, ?_⟩) (by assumption) ?_
       rotate_left
       focus (intro w hSw; (try dsimp only at hSw); go_simp <;> with_reducible rfl)
       (try simp only [redA, Act.put])
       refine wpAnyH_take (i := 1) (v := ?_) rfl (by kernel_rfl) (by kernel_rfl) (by kernel_rfl) (fun _ _ _ h => h) (Or.inl ⟨by rfl, ?_⟩) (by assumption) ?_
       rotate_left
       focus (intro w hSw; (try dsimp only at hSw); have hq := hSw.2.2.1.cell; go_simp <;> with_reducible rfl)
       (try simp only [redA, Act.put])
       refine wpAnyH_take (i := 2) (v := ?_) rfl (by kernel_rfl) (by kernel_rfl) (by kernel_rfl) (fun _ _ _ h => h) (Or.inl ⟨by rfl, ?_⟩) (by assumption) ?_
       rotate_left
       focus (intro w hSw; (try dsimp only at hSw); go_simp <;> with_reducible rfl)
       (try simp only [redA, Act.put])
       refine wpAnyH_take (i := 3) (v := ?_) rfl (by kernel_rfl) (by kernel_rfl) (by kernel_rfl) (fun _ _ _ h => h) (Or.inl ⟨by rfl, ?_⟩) (by assumption) ?_
       rotate_left
       focus (intro w hSw; (try dsimp only at hSw); go_simp <;> with_reducible rfl)
       (try simp only [redA, Act.put])
       refine wpAnyH_take (i := 5) (v := ?_) rfl (by kernel_rfl) (by kernel_rfl) (by kernel_rfl) (fun _ _ _ h => h) (Or.inl ⟨by rfl, ?_⟩) (by assumption) ?_
       rotate_left
       focus (intro w hSw; (try dsimp only at hSw); go_simp <;> with_reducible rfl)
       (try simp only [redA, Act.put])
       refine wpAnyH_take (i := 6) (v := ?_) rfl (by kernel_rfl) (by kernel_rfl) (by kernel_rfl) (fun _ _ _ h => h) (Or.inl ⟨by rfl, ?_⟩) (by assumption) ?_
       rotate_left
       focus (intro w hSw; (try dsimp only at hSw); go_simp <;> with_reducible rfl)
       (try simp only [redA, Act.put])
       refine wpAnyH_take (i := 9) (v := ?_) rfl (by kernel_rfl) (by kernel_rfl) (by kernel_rfl) (fun _ _ _ h => h) (Or.inl ⟨by rfl, ?_⟩) (by assumption) ?_
       rotate_left
       focus (intro w hSw; (try dsimp only at hSw); have hq := hSw.2.2.2.cell; go_simp <;> with_reducible rfl)
       (try simp only [redA, Act.put])
       refine wpAnyH_ready (rs := [4]) (by kernel_rfl) (by simp) ?_
       refine AllReadyH.cons rfl (fun Kz hKz => ?_) AllReadyH.nil
       (try simp only [redA])
       go_simp
       go_at_call 80
       refine (l1Min_c _ _).mono ?_
       rintro e w9 ⟨rfl, rfl⟩
       refine hKz.out _ _ (by (try dsimp only); exact ⟨(by exact updT), (by exact curT), (Blk.cast (by exact blkT) setsT), (Blk.cast (by exact blkT) setsT)⟩) (fun hHeld => ?_)
       clear hKz Kz
       (try simp only [redA, Act.put])
       refine wpAnyH_ready (rs := [7]) (by kernel_rfl) (by simp) ?_
       refine AllReadyH.cons rfl (fun Kz hKz => ?_) AllReadyH.nil
       (try simp only [redA])
       go_simp
       go_at_call 30
       refine (l1Below_c (show Cur B _ g from by exact curT) 40).mono ?_
       rintro e w10 ⟨_, rfl, X10, hc10, z, rfl, pz, qz, rz⟩
       have hz10 := X10.size; (try simp only [szA] at hz10)
       have E10 : Upd w w10 [g] := Upd.trans (by exact updT) X10
       have KS10 : Blk w10 w.heap.size 63 #[.int .i64 s.Index, .int .i64 s.Time, .slice a2 n2 k2, .slice a3 n3 k3, .int .i64 s.Lease.Holder, .int .i64 s.Lease.Epoch, .int .i64 s.Lease.Until] := Blk.upd1 (Blk.cast (by exact blkT) (by first | rfl | simp)) X10 (by omega)
       have KR10 : Blk w10 (w.heap.size + 1) 105 #[.int .i64 0, .int .i64 0, .int .i64 0, .int .i64 0, .int .i64 0, .int .i64 0, .int .i64 0, .int .i64 0, .int .i64 0] := Blk.upd1 (Blk.cast (by exact blkT) (by first | rfl | simp)) X10 (by omega)
       have KO10 : Blk w10 w2.heap.size 30 #[.int .i64 v0, .int .i64 v1, .int .i64 v2, .int .i64 v3, .int .i64 v4] := Blk.upd1 (Blk.cast (by exact blkT) (by first | rfl | simp)) X10 (by omega)
       have Op10 : OwnI M 157 2 w10 (.slice a2 n2 k2) (flPair s.Pairs) := OwnI.drawn (by exact ownT) X10 (by omega)
       have Oj10 : OwnI M 142 5 w10 (.slice a3 n3 k3) (flJob s.Jobs) := OwnI.drawn (by exact ownT) X10 (by omega)
       clear X10
       clear CS9 FS9 LS9 CR9 FR9 LR9 CO9 FO9 LO9
       have CS10 := KS10.cell; have FS10 := KS10.frozen; have LS10 := KS10.lt
       have CR10 := KR10.cell; have FR10 := KR10.frozen; have LR10 := KR10.lt
       have CO10 := KO10.cell; have FO10 := KO10.frozen; have LO10 := KO10.lt
       refine hKz.out _ _ (by (try dsimp only); exact ⟨(by exact updT), (by exact curT), (Blk.cast (by exact blkT) setsT), (Blk.cast (by exact blkT) setsT)⟩) (fun hHeld => ?_)
       clear hKz Kz
       (try simp only [redA, Act.put])
       refine wpAnyH_take (i := 8) (v := ?_) rfl (by kernel_rfl) (by kernel_rfl) (by kernel_rfl) (fun _ _ _ h => h) (Or.inl ⟨by rfl, ?_⟩) (by assumption) ?_
       rotate_left
       focus (intro w hSw; (try dsimp only at hSw); go_simp <;> with_reducible rfl)
       (try simp only [redA, Act.put])
       refine wpAnyH_ready (rs := [10]) (by kernel_rfl) (by simp) ?_
       refine AllReadyH.cons rfl (fun Kz hKz => ?_) AllReadyH.nil
       (try simp only [redA])
       go_simp
       go_at_call 190
       refine (capOp_c _ v0 v1 v2 v3 v4).mono ?_
       rintro e w11 ⟨_, rfl, hx11, z0, z1, z2, z3, z4, rfl⟩
       have hz11 := hx11.size; (try simp only [szA] at hz11)
       have E11 : Upd w w11 [g] := Upd.ext (by exact updT) hx11
       have hc11 : Cur B w11 g := Cur.ext (by exact curT) hx11
       have KS11 : Blk w11 w.heap.size 63 #[.int .i64 s.Index, .int .i64 s.Time, .slice a2 n2 k2, .slice a3 n3 k3, .int .i64 s.Lease.Holder, .int .i64 s.Lease.Epoch, .int .i64 s.Lease.Until] := Blk.ext (Blk.cast (by exact blkT) (by first | rfl | simp)) hx11
       have KR11 : Blk w11 (w.heap.size + 1) 105 #[.int .i64 0, .int .i64 0, .int .i64 0, .int .i64 0, .int .i64 0, .int .i64 0, .int .i64 0, .int .i64 0, .int .i64 0] := Blk.ext (Blk.cast (by exact blkT) (by first | rfl | simp)) hx11
       have KO11 : Blk w11 w2.heap.size 30 #[.int .i64 v0, .int .i64 v1, .int .i64 v2, .int .i64 v3, .int .i64 v4] := Blk.ext (Blk.cast (by exact blkT) (by first | rfl | simp)) hx11
       have Op11 : OwnI M 157 2 w11 (.slice a2 n2 k2) (flPair s.Pairs) := OwnI.ext1 (by exact ownT) hx11
       have Oj11 : OwnI M 142 5 w11 (.slice a3 n3 k3) (flJob s.Jobs) := OwnI.ext1 (by exact ownT) hx11
       clear hx11
       clear CS10 FS10 LS10 CR10 FR10 LR10 CO10 FO10 LO10
       have CS11 := KS11.cell; have FS11 := KS11.frozen; have LS11 := KS11.lt
       have CR11 := KR11.cell; have FR11 := KR11.frozen; have LR11 := KR11.lt
       have CO11 := KO11.cell; have FO11 := KO11.frozen; have LO11 := KO11.lt
       refine hKz.out _ _ (by (try dsimp only); exact ⟨(by exact updT), (by exact curT), (Blk.cast (by exact blkT) setsT), (Blk.cast (by exact blkT) setsT)⟩) (fun hHeld => ?_)
       clear hKz Kz
       (try simp only [redA, Act.put])
       refine wpAnyH_take (i := 11) (v := ?_) rfl (by kernel_rfl) (by kernel_rfl) (by kernel_rfl) (fun _ _ _ h => h) (Or.inl ⟨by rfl, ?_⟩) (by assumption) ?_
       rotate_left
       focus (intro w hSw; (try dsimp only at hSw); go_simp <;> with_reducible rfl)
       (try simp only [redA, Act.put])
       refine wpAnyH_ready (rs := [12]) (by kernel_rfl) (by simp) ?_
       refine AllReadyH.cons rfl (fun Kz hKz => ?_) AllReadyH.nil
       (try simp only [redA])
       go_simp
       refine hKz.out _ _ (by (try dsimp only); exact ⟨(by exact updT), (by exact curT), (Blk.cast (by exact blkT) setsT), (Blk.cast (by exact blkT) setsT)⟩) (fun hHeld => ?_)
       clear hKz Kz
       (try simp only [redA, Act.put])
       refine wpAnyH_done (by kernel_rfl) ?_ _
       go_wp2_with fail
       refine bodyPost_ret (by simp [results, Tryz.results147, go_sem, CS11, FS11, LS11, CR11, FR11, LR11, CO11, FO11, LO11]; try rfl) rfl ?_
       exact ⟨_, rfl, by exact updT, by exact curT, _, _, _, _, _, _, _, _, _, rfl⟩

end Go.Proofs.YtcnioiieiebodaaGreat

-- Draws of entries, bent.
set_option linter.unusedSimpArgs false
set_option linter.unusedVariables false
namespace Go.Proofs.YtcnioiieiebodaaGreat
open Go.RowKit Go.G8

end Go.Proofs.YtcnioiieiebodaaGreat

-- Draws of lists of entries.
set_option linter.unusedSimpArgs false
set_option linter.unusedVariables false
namespace Go.Proofs.YtcnioiieiebodaaGreat
open Go.RowKit Go.G8

theorem OwnI.lit2 (w : World) (a b : Obj) (e : TypeId) (n : Nat) : OwnI w.heap.size e n (((w.alloc a).alloc b).alloc (.cells #[] e)) (.slice (some ⟨w.heap.size + 1 + 1, 0, none⟩) 0 0) [] := by
 have := OwnI.lit0 ((w.alloc a).alloc b) e n
 simp only [World.size_alloc] at this
 exact this.mono (by omega)
theorem sNewState_c (w : World) : Calls Tryz.prog 104 #[] w (RetV w (.agg #[.int .i64 0, .int .i64 0, .slice none 0 0, .slice none 0 0, .int .i64 0, .int .i64 0, .int .i64 0])) := by
 go_enter Tryz.func104, Tryz.ntmps104
 go_wp2_with fail
 refine bodyPost_ret (by simp [results, Tryz.results104, go_sem]; try rfl) rfl ?_
 exact ⟨rfl, by (first | exact extT | omega)⟩
set_option maxHeartbeats 4000000 in
set_option maxRecDepth 100000 in
theorem drawEntries_c {B : Nat} {w : World} {g : Nat} (h : Cur B w g) {M : Nat} (hM : g < M) {t : Value} {s : DState} (hs : IsState M w t s) (hMw : M ≤ w.heap.size) (N : Nat) (hN : N ≤ 64) : Calls Tryz.prog 103 #[.pointer (some ⟨g, 0, none⟩), t, .int .i64 N] w (Dr B w g fun v w' => ∃ u x l s', v = .tuple #[u, x] ∧ OwnI w.heap.size 105 9 w' u (flEntry l) ∧ l.length ≤ N ∧ IsState M w' x s' ∧ (stateOk s = true → stateOk s' = true)) := by
 obtain ⟨i0, hi, hy0, hy1, hy2⟩ := info_parts info_Entry
 obtain ⟨t2, t3, rfl, h2, h3⟩ := hs
 obtain ⟨a2, n2, k2, rfl⟩ := h2.shape
 obtain ⟨a3, n3, k3, rfl⟩ := h3.shape
 have Op0 := h2; have Oj0 := h3; clear h2 h3
 have hc0 := h; have E0 : Upd w w [g] := Upd.refl _ _
 have hg0 := h.lt
 go_enter Tryz.func103, Tryz.ntmps103
 go_wp2_with fail
 go_loopw [2, 8] (fun kk out wr => ∃ (k : Nat) (l : List DEntry) (s' : DState) (b2 : Option Addr) (m2 c2 : Nat) (b3 : Option Addr) (m3 c3 : Nat), k ≤ N ∧ kk = .int .i64 k ∧ l.length + k ≤ N ∧ (stateOk s = true → stateOk s' = true) ∧ Upd w wr [g] ∧ Cur B wr g ∧ OwnI w.heap.size 105 9 wr out (flEntry l) ∧ Blk wr w.heap.size 63 #[.int .i64 s'.Index, .int .i64 s'.Time, .slice b2 m2 c2, .slice b3 m3 c3, .int .i64 s'.Lease.Holder, .int .i64 s'.Lease.Epoch, .int .i64 s'.Lease.Until] ∧ Blk wr (w.heap.size + 1) 63 #[.int .i64 0, .int .i64 0, .slice none 0 0, .slice none 0 0, .int .i64 0, .int .i64 0, .int .i64 0] ∧ OwnI M 157 2 wr (.slice b2 m2 c2) (flPair s'.Pairs) ∧ OwnI M 142 5 wr (.slice b3 m3 c3) (flJob s'.Jobs)) (fun kk _ _ => (intOf kk).toNat)
 case atStart => exact ⟨N, [], s, a2, n2, k2, a3, n3, k3, Nat.le_refl _, rfl, by simp, fun h => h, by exact updT, by exact curT, OwnI.lit2 w _ _ _ _, Blk.cast (by exact blkT) (by first | rfl | simp), Blk.cast (by exact blkT) (by first | rfl | simp), by exact ownT, by exact ownT⟩
 case round =>
  obtain ⟨k, l, s', b2, m2, c2, b3, m3, c3, hk, rfl, hl, hok, E1, hc1, Ol1, KS1, KZ1, Op1, Oj1⟩ := hrel
  clear Op0 Oj0
  obtain ⟨a0, n0, c0, rfl⟩ := Ol1.shape
  obtain ⟨w1, hw⟩ : ∃ w1, w1 = wr := ⟨_, rfl⟩
  subst hw
  have hz1 := E1.size
  have CS1 := KS1.cell; have FS1 := KS1.frozen; have LS1 := KS1.lt
  have CZ1 := KZ1.cell; have FZ1 := KZ1.frozen; have LZ1 := KZ1.lt
  by_cases hlt : 0 < k
  ·
   skip
   have hlt2 : (0 : Int) < (k : Int) := by omega
   have hw9 : IntKind.i64.wrap ((k : Int) - 1) = (k : Int) - 1 := by rw [IntKind.wrap_i64]; omega
   go_wp2_with fail
   refine (drawEntry_c (show Cur B _ g from by exact curT) hM (s := s') ⟨_, _, rfl, (by exact ownT), (by exact ownT)⟩).mono ?_
   rintro e w2 ⟨_, rfl, X2, hc2, ei, et, ec, es, ok, oa, ob, oc, od, rfl⟩
   have hz2 := X2.size; (try simp only [szA] at hz2)
   have E2 : Upd w w2 [g] := Upd.trans (by exact updT) X2
   have KS2 : Blk w2 w.heap.size 63 #[.int .i64 s'.Index, .int .i64 s'.Time, .slice b2 m2 c2, .slice b3 m3 c3, .int .i64 s'.Lease.Holder, .int .i64 s'.Lease.Epoch, .int .i64 s'.Lease.Until] := Blk.upd1 (Blk.cast (by exact blkT) (by first | rfl | simp)) X2 (by omega)
   have KZ2 : Blk w2 (w.heap.size + 1) 63 #[.int .i64 0, .int .i64 0, .slice none 0 0, .slice none 0 0, .int .i64 0, .int .i64 0, .int .i64 0] := Blk.upd1 (Blk.cast (by exact blkT) (by first | rfl | simp)) X2 (by omega)
   have Ol2 : OwnI w.heap.size 105 9 w2 (.slice a0 n0 c0) (flEntry l) := OwnI.drawn (by first | (with_reducible exact Ol1) | (refine OwnI.updX Ol1 KS1 (by decide) ?_; (exact updT); done) | (exact ownT)) X2 (by omega)
   have Op2 : OwnI M 157 2 w2 (.slice b2 m2 c2) (flPair s'.Pairs) := OwnI.drawn (by first | (with_reducible exact Op1) | (refine OwnI.updX Op1 KS1 (by decide) ?_; (exact updT); done) | (exact ownT)) X2 (by omega)
   have Oj2 : OwnI M 142 5 w2 (.slice b3 m3 c3) (flJob s'.Jobs) := OwnI.drawn (by first | (with_reducible exact Oj1) | (refine OwnI.updX Oj1 KS1 (by decide) ?_; (exact updT); done) | (exact ownT)) X2 (by omega)
   clear X2
   clear CS1 FS1 LS1 CZ1 FZ1 LZ1
   have CS2 := KS2.cell; have FS2 := KS2.frozen; have LS2 := KS2.lt
   have CZ2 := KZ2.cell; have FZ2 := KZ2.frozen; have LZ2 := KZ2.lt
   go_upto_region 5 with (fail)
   go_cut [10, 11] (fun cx0 cx1 wx => ∃ nn : Nat, ∃ okb : Bool, ∃ s2 : DState, ∃ d2 : Option Addr, ∃ q2 : Nat, ∃ r2 : Nat, ∃ d3 : Option Addr, ∃ q3 : Nat, ∃ r3 : Nat, cx0 = .pointer (some ⟨nn, 0, none⟩) ∧ cx1 = .bool okb ∧ w2.heap.size < nn ∧ (stateOk s = true → stateOk s2 = true) ∧ Blk wx nn 63 #[.int .i64 s2.Index, .int .i64 s2.Time, .slice d2 q2 r2, .slice d3 q3 r3, .int .i64 s2.Lease.Holder, .int .i64 s2.Lease.Epoch, .int .i64 s2.Lease.Until] ∧ OwnI M 157 2 wx (.slice d2 q2 r2) (flPair s2.Pairs) ∧ OwnI M 142 5 wx (.slice d3 q3 r3) (flJob s2.Jobs) ∧ Upd w wx [g] ∧ Cur B wx g ∧ Blk wx w.heap.size 63 #[.int .i64 s'.Index, .int .i64 s'.Time, .slice b2 m2 c2, .slice b3 m3 c3, .int .i64 s'.Lease.Holder, .int .i64 s'.Lease.Epoch, .int .i64 s'.Lease.Until] ∧ Blk wx (w.heap.size + 1) 63 #[.int .i64 0, .int .i64 0, .slice none 0 0, .slice none 0 0, .int .i64 0, .int .i64 0, .int .i64 0] ∧ Blk wx w2.heap.size 105 #[.int .i64 ei, .int .i64 et, .int .i64 ec, .int .i64 es, .int .i64 ok, .int .i64 oa, .int .i64 ob, .int .i64 oc, .int .i64 od] ∧ OwnI w.heap.size 105 9 wx (.slice a0 n0 c0) (flEntry l) ∧ OwnI M 157 2 wx (.slice b2 m2 c2) (flPair s'.Pairs) ∧ OwnI M 142 5 wx (.slice b3 m3 c3) (flJob s'.Jobs))
   case first =>
    go_wp2_with fail
    refine (sApplied_k (s := s') (IsState.rd (B := M) ⟨_, _, rfl, (by exact ownT), (by exact ownT)⟩) _ _ _ _ _ _ _ _ _).mono ?_
    rintro e w3 ⟨_, rfl, hx3, u, rfl, gu⟩
    have hz3 := hx3.size; (try simp only [szA] at hz3)
    have E3 : Upd w w3 [g] := Upd.ext (by exact updT) hx3
    have hc3 : Cur B w3 g := Cur.ext (by exact curT) hx3
    have KS3 : Blk w3 w.heap.size 63 #[.int .i64 s'.Index, .int .i64 s'.Time, .slice b2 m2 c2, .slice b3 m3 c3, .int .i64 s'.Lease.Holder, .int .i64 s'.Lease.Epoch, .int .i64 s'.Lease.Until] := Blk.ext (Blk.cast (by exact blkT) (by first | rfl | simp)) hx3
    have KZ3 : Blk w3 (w.heap.size + 1) 63 #[.int .i64 0, .int .i64 0, .slice none 0 0, .slice none 0 0, .int .i64 0, .int .i64 0, .int .i64 0] := Blk.ext (Blk.cast (by exact blkT) (by first | rfl | simp)) hx3
    have KE3 : Blk w3 w2.heap.size 105 #[.int .i64 ei, .int .i64 et, .int .i64 ec, .int .i64 es, .int .i64 ok, .int .i64 oa, .int .i64 ob, .int .i64 oc, .int .i64 od] := Blk.ext (Blk.cast (by exact blkT) (by first | rfl | simp)) hx3
    have Ol3 : OwnI w.heap.size 105 9 w3 (.slice a0 n0 c0) (flEntry l) := OwnI.ext1 (by first | (with_reducible exact Ol2) | (refine OwnI.updX Ol2 KS2 (by decide) ?_; (exact updT); done) | (exact ownT)) hx3
    have Op3 : OwnI M 157 2 w3 (.slice b2 m2 c2) (flPair s'.Pairs) := OwnI.ext1 (by first | (with_reducible exact Op2) | (refine OwnI.updX Op2 KS2 (by decide) ?_; (exact updT); done) | (exact ownT)) hx3
    have Oj3 : OwnI M 142 5 w3 (.slice b3 m3 c3) (flJob s'.Jobs) := OwnI.ext1 (by first | (with_reducible exact Oj2) | (refine OwnI.updX Oj2 KS2 (by decide) ?_; (exact updT); done) | (exact ownT)) hx3
    clear hx3
    clear CS2 FS2 LS2 CZ2 FZ2 LZ2
    have CS3 := KS3.cell; have FS3 := KS3.frozen; have LS3 := KS3.lt
    have CZ3 := KZ3.cell; have FZ3 := KZ3.frozen; have LZ3 := KZ3.lt
    have CE3 := KE3.cell; have FE3 := KE3.frozen; have LE3 := KE3.lt
    obtain ⟨v2, v3, rfl, gp, gj⟩ := gu
    obtain ⟨d2, q2, r2, rfl⟩ := gp.shape
    obtain ⟨d3, q3, r3, rfl⟩ := gj.shape
    have Oq3 := gp.mono (B' := M) (by simp only [World.size_alloc, World.size_setCell, size_setRow]; omega); have Or3 := gj.mono (B' := M) (by simp only [World.size_alloc, World.size_setCell, size_setRow]; omega)
    go_wp2_with fail
    go_meet
    case rel => exact ⟨_, _, _, _, _, _, _, _, _, (by first | rfl | trivial), (by first | rfl | trivial), (by first | omega | (simp only [szA] at *; omega)), (fun h => appD_ok (hok h)), (Blk.cast (by exact blkT) setsT), (by first | (with_reducible exact Oq3) | (refine OwnI.drawn Oq3 ?_ (by omega); (exact updT); done) | (refine OwnI.updX Oq3 KS3 (by decide) ?_; (exact updT); done)), (by first | (with_reducible exact Or3) | (refine OwnI.drawn Or3 ?_ (by omega); (exact updT); done) | (refine OwnI.updX Or3 KS3 (by decide) ?_; (exact updT); done)), (by exact updT), (by exact curT), (Blk.cast (by exact blkT) setsT), (Blk.cast (by exact blkT) setsT), (Blk.cast (by exact blkT) setsT), (by first | (with_reducible exact Ol3) | (refine OwnI.drawn Ol3 ?_ (by omega); (exact updT); done) | (refine OwnI.updX Ol3 KS3 (by decide) ?_; (exact updT); done)), (by first | (with_reducible exact Op3) | (refine OwnI.drawn Op3 ?_ (by omega); (exact updT); done) | (refine OwnI.updX Op3 KS3 (by decide) ?_; (exact updT); done)), (by first | (with_reducible exact Oj3) | (refine OwnI.drawn Oj3 ?_ (by omega); (exact updT); done) | (refine OwnI.updX Oj3 KS3 (by decide) ?_; (exact updT); done))⟩
   case rest =>
    revert wc; intro w3 hcut
    obtain ⟨nn, okb, s2, d2, q2, r2, d3, q3, r3, rfl, rfl, hnn, hok2, KN3, Oq3, Or3, E3, hc3, KS3, KZ3, KE3, Ol3, Op3, Oj3⟩ := hcut
    have hz3 := E3.size
    clear CS2 FS2 LS2 CZ2 FZ2 LZ2
    have CS3 := KS3.cell; have FS3 := KS3.frozen; have LS3 := KS3.lt
    have CZ3 := KZ3.cell; have FZ3 := KZ3.frozen; have LZ3 := KZ3.lt
    have CE3 := KE3.cell; have FE3 := KE3.frozen; have LE3 := KE3.lt
    have CN3 := KN3.cell; have FN3 := KN3.frozen; have LN3 := KN3.lt
    cases okb
    rotate_left
    ·
     skip
     have OO : OwnI w.heap.size 105 9 (w3.alloc (.cells #[.int .i64 ei, .int .i64 et, .int .i64 ec, .int .i64 es, .int .i64 ok, .int .i64 oa, .int .i64 ob, .int .i64 oc, .int .i64 od] 105)) (.slice a0 n0 c0) (flEntry l) := OwnI.ext1 Ol3 ((Ext.refl _).alloc _)
     go_upto_region 8 with (first | (at_builtin; go_loud (refine wp_appendU rfl _ _ 66 rfl 105 i0 _ 9 72 Tryz.underlying66 hi hy0 hy1 hy2 rfl (by decide) w.heap.size _ _ rfl OO _ [ei, et, ec, es, ok, oa, ob, oc, od] rfl (Sl.oneAt _ #[.int .i64 ei, .int .i64 et, .int .i64 ec, .int .i64 es, .int .i64 ok, .int .i64 oa, .int .i64 ob, .int .i64 oc, .int .i64 od] _ 9 _ (by first | rfl | simp) rfl) 1000 (by simp only [length_flEntry, List.length_cons, List.length_nil]; omega) (by omega) (by omega) (by simp only [World.size_alloc]; omega) ?_; rotate_right; intro vv w4 On h3)))
     obtain ⟨a4, n4, c4, rfl⟩ := On.shape
     have Ol4 : OwnI w.heap.size 105 9 w4 (.slice a4 n4 c4) (flEntry (l ++ [DEntry.mk ei et ec es ⟨ok, oa, ob, oc, od⟩])) := by (have e9 : flEntry (l ++ [DEntry.mk ei et ec es ⟨ok, oa, ob, oc, od⟩]) = flEntry l ++ [ei, et, ec, es, ok, oa, ob, oc, od] := (by simp [flEntry, DEntry.ints])); rw [e9]; exact On
     have hz4 := h3.size; (try simp only [World.size_alloc] at hz4)
     have E4 : Upd w w4 [g] := Upd.app (by exact updT) OO (.inr (by omega)) h3
     have hc4 : Cur B w4 g := Cur.app (by exact curT) OO (by omega) h3
     have KS4 : Blk w4 w.heap.size 63 #[.int .i64 s'.Index, .int .i64 s'.Time, .slice b2 m2 c2, .slice b3 m3 c3, .int .i64 s'.Lease.Holder, .int .i64 s'.Lease.Epoch, .int .i64 s'.Lease.Until] := Blk.app (Blk.cast (by exact blkT) (by first | rfl | simp)) OO (by decide) h3
     have KZ4 : Blk w4 (w.heap.size + 1) 63 #[.int .i64 0, .int .i64 0, .slice none 0 0, .slice none 0 0, .int .i64 0, .int .i64 0, .int .i64 0] := Blk.app (Blk.cast (by exact blkT) (by first | rfl | simp)) OO (by decide) h3
     have KN4 : Blk w4 nn 63 #[.int .i64 s2.Index, .int .i64 s2.Time, .slice d2 q2 r2, .slice d3 q3 r3, .int .i64 s2.Lease.Holder, .int .i64 s2.Lease.Epoch, .int .i64 s2.Lease.Until] := Blk.app (Blk.cast (by exact blkT) (by first | rfl | simp)) OO (by decide) h3
     have Op4 : OwnI M 157 2 w4 (.slice b2 m2 c2) (flPair s'.Pairs) := OwnI.app (by exact ownT) OO (by decide) h3
     have Oj4 : OwnI M 142 5 w4 (.slice b3 m3 c3) (flJob s'.Jobs) := OwnI.app (by exact ownT) OO (by decide) h3
     have Oq4 : OwnI M 157 2 w4 (.slice d2 q2 r2) (flPair s2.Pairs) := OwnI.app (by exact ownT) OO (by decide) h3
     have Or4 : OwnI M 142 5 w4 (.slice d3 q3 r3) (flJob s2.Jobs) := OwnI.app (by exact ownT) OO (by decide) h3
     clear OO h3 On
     clear CS3 FS3 LS3 CZ3 FZ3 LZ3 CE3 FE3 LE3 CN3 FN3 LN3
     have CS4 := KS4.cell; have FS4 := KS4.frozen; have LS4 := KS4.lt
     have CZ4 := KZ4.cell; have FZ4 := KZ4.frozen; have LZ4 := KZ4.lt
     have CN4 := KN4.cell; have FN4 := KN4.frozen; have LN4 := KN4.lt
     go_wp2_with fail
     go_roundw
     case rel => exact ⟨k - 1, l ++ [DEntry.mk ei et ec es ⟨ok, oa, ob, oc, od⟩], s2, d2, q2, r2, d3, q3, r3, by omega, by (try simp only [Value.int.injEq, true_and]); first | omega | (congr 1; omega), by simp; omega, hok2, by exact updT, by exact curT, (by first | (with_reducible exact Ol4) | (refine OwnI.drawn Ol4 ?_ (by omega); (exact updT); done) | (refine OwnI.updX Ol4 KS4 (by decide) ?_; (exact updT); done)), Blk.cast (by exact blkT) (by first | rfl | simp), Blk.cast (by exact blkT) (by first | rfl | simp), (by first | (with_reducible exact Oq4) | (refine OwnI.drawn Oq4 ?_ (by omega); (exact updT); done) | (refine OwnI.updX Oq4 KS4 (by decide) ?_; (exact updT); done)), (by first | (with_reducible exact Or4) | (refine OwnI.drawn Or4 ?_ (by omega); (exact updT); done) | (refine OwnI.updX Or4 KS4 (by decide) ?_; (exact updT); done))⟩
     case measure => simp [intOf]; omega
    ·
     skip
     go_wp2_with fail
     go_roundw
     case rel => exact ⟨k - 1, l, s', b2, m2, c2, b3, m3, c3, by omega, by (try simp only [Value.int.injEq, true_and]); first | omega | (congr 1; omega), by omega, hok, by exact updT, by exact curT, (by first | (with_reducible exact Ol3) | (refine OwnI.drawn Ol3 ?_ (by omega); (exact updT); done) | (refine OwnI.updX Ol3 KS3 (by decide) ?_; (exact updT); done)), Blk.cast (by exact blkT) (by first | rfl | simp), Blk.cast (by exact blkT) (by first | rfl | simp), (by first | (with_reducible exact Op3) | (refine OwnI.drawn Op3 ?_ (by omega); (exact updT); done) | (refine OwnI.updX Op3 KS3 (by decide) ?_; (exact updT); done)), (by first | (with_reducible exact Oj3) | (refine OwnI.drawn Oj3 ?_ (by omega); (exact updT); done) | (refine OwnI.updX Oj3 KS3 (by decide) ?_; (exact updT); done))⟩
     case measure => simp [intOf]; omega
  ·
   skip
   obtain rfl : k = 0 := by omega
   go_wp2_with fail
   refine wp_region_held_drew (S := fun w' => Upd w w' [g] ∧ Cur B w' g ∧ Blk w' w.heap.size 63 #[.int .i64 s'.Index, .int .i64 s'.Time, .slice b2 m2 c2, .slice b3 m3 c3, .int .i64 s'.Lease.Holder, .int .i64 s'.Lease.Epoch, .int .i64 s'.Lease.Until]) (by kernel_rfl) (by (try dsimp only); exact ⟨(by exact updT), (by exact curT), (Blk.cast (by exact blkT) setsT)⟩) (fun hHeld => ?_)
   refine wpAnyH_take (i := 0) (v := ?_) rfl (by kernel_rfl) (by kernel_rfl) (by kernel_rfl) (fun _ _ _ h => h) (Or.inl ⟨by rfl, ?_⟩) (by assumption) ?_
   rotate_left
   focus (intro w hSw; (try dsimp only at hSw); go_simp <;> with_reducible rfl)
   (try simp only [redA, Act.put])
   refine wpAnyH_take (i := 1) (v := ?_) rfl (by kernel_rfl) (by kernel_rfl) (by kernel_rfl) (fun _ _ _ h => h) (Or.inl ⟨by rfl, ?_⟩) (by assumption) ?_
   rotate_left
   focus (intro w hSw; (try dsimp only at hSw); have hq := hSw.2.2.cell; go_simp <;> with_reducible rfl)
   (try simp only [redA, Act.put])
   refine wpAnyH_ready (rs := [2]) (by kernel_rfl) (by simp) ?_
   refine AllReadyH.cons rfl (fun Kz hKz => ?_) AllReadyH.nil
   (try simp only [redA])
   go_simp
   refine hKz.out _ _ (by (try dsimp only); exact ⟨(by exact updT), (by exact curT), (Blk.cast (by exact blkT) setsT)⟩) (fun hHeld => ?_)
   clear hKz Kz
   (try simp only [redA, Act.put])
   refine wpAnyH_ready (rs := [3]) (by kernel_rfl) (by simp) ?_
   refine AllReadyH.cons rfl (fun Kz hKz => ?_) AllReadyH.nil
   (try simp only [redA])
   go_simp
   refine hKz.out _ _ (by (try dsimp only); exact ⟨(by exact updT), (by exact curT), (Blk.cast (by exact blkT) setsT)⟩) (fun hHeld => ?_)
   clear hKz Kz
   (try simp only [redA, Act.put])
   refine wpAnyH_done (by kernel_rfl) ?_ _
   go_wp2_with fail
   refine bodyPost_ret (by simp [results, Tryz.results103, go_sem, CS1, FS1, LS1, CZ1, FZ1, LZ1]; try rfl) rfl ?_
   exact ⟨_, rfl, by exact updT, by exact curT, _, _, l, s', rfl, (by first | (with_reducible exact Ol1) | (refine OwnI.drawn Ol1 ?_ (by omega); (exact updT); done) | (refine OwnI.updX Ol1 KZ1 (by decide) ?_; (exact updT); done)), by omega, ⟨_, _, rfl, (by first | (with_reducible exact Op1) | (refine OwnI.drawn Op1 ?_ (by omega); (exact updT); done) | (refine OwnI.updX Op1 KZ1 (by decide) ?_; (exact updT); done)), (by first | (with_reducible exact Oj1) | (refine OwnI.drawn Oj1 ?_ (by omega); (exact updT); done) | (refine OwnI.updX Oj1 KZ1 (by decide) ?_; (exact updT); done))⟩, hok⟩

end Go.Proofs.YtcnioiieiebodaaGreat

-- Draws of states.
set_option linter.unusedSimpArgs false
set_option linter.unusedVariables false
namespace Go.Proofs.YtcnioiieiebodaaGreat
open Go.RowKit Go.G8

theorem OwnI.updX2 {B : Nat} {e t u : TypeId} {n : Nat} {w w' : World} {v : Value} {xs : List Int} {X Y : Nat} {a b : Array Value} (h : OwnI B e n w v xs) (hX : Blk w X t a) (hY : Blk w Y u b) (h1 : t ≠ e) (h2 : u ≠ e) (x : Upd w w' [X, Y]) : OwnI B e n w' v xs :=
 Own.upd h x (fun k hk hm => by
  have hm : k = X ∨ k = Y := by simpa using hm
  obtain ⟨c, hc⟩ := Own.typed' h hk
  rcases hm with hm | hm
  ·
   subst hm
   unfold Blk at hc hX
   rw [hX] at hc
   injection hc with hc
   injection hc with _ hc
   exact h1 hc
  ·
   subst hm
   unfold Blk at hc hY
   rw [hY] at hc
   injection hc with hc
   injection hc with _ hc
   exact h2 hc)
theorem Upd.setA {a b : World} {g k : Nat} (h : Upd a b [g, k]) (o : Nat) (u : Value) : Upd a (b.setCell ⟨g, o, none⟩ u) [g, k] := h.setCell (by simp) u
theorem Upd.setB {a b : World} {g k : Nat} (h : Upd a b [g, k]) (o : Nat) (u : Value) : Upd a (b.setCell ⟨k, o, none⟩ u) [g, k] := h.setCell (by simp) u
theorem Upd.rowIn {a b : World} {fs : List Nat} (h : Upd a b fs) {g : Nat} (hg : g ∈ fs) (cs : Array Value) : Upd a (b.setRow g cs) fs :=
 ⟨h.os, h.tape, h.output, by rw [size_setRow]; exact h.size, fun k hk hn => (heap_setRow_ne b cs (fun e => hn (by rw [e]; exact hg))).trans (h.block k hk hn)⟩
theorem Upd.rowA {a b : World} {g k : Nat} (h : Upd a b [g, k]) (cs : Array Value) : Upd a (b.setRow g cs) [g, k] := Upd.rowIn h (by simp) cs
theorem Upd.rowB {a b : World} {g k : Nat} (h : Upd a b [g, k]) (cs : Array Value) : Upd a (b.setRow k cs) [g, k] := Upd.rowIn h (by simp) cs
theorem upd2T {a b : World} {g k : Nat} (h : Upd a b [g, k] := by ((repeat' (first | (with_reducible exact Upd.refl _ _) | (with_reducible refine Upd.drewNd ?_ _) | (with_reducible refine Upd.drewd1 ?_) | (with_reducible refine Upd.alloc ?_ _) | (with_reducible refine Upd.setA ?_ _ _) | (with_reducible refine Upd.setB ?_ _ _) | (with_reducible refine Upd.rowA ?_ _) | (with_reducible refine Upd.rowB ?_ _) | (with_reducible refine Upd.setAt ?_ ?_ _) | (with_reducible refine Upd.rowNew ?_ ?_ _) | omega)); first | done | fail)) : Upd a b [g, k] := h
set_option maxHeartbeats 4000000 in
set_option maxRecDepth 100000 in
theorem l17Draw_c {B : Nat} {w : World} {g : Nat} (h : Cur B w g) : Calls Tryz.prog 61 #[.pointer (some ⟨g, 0, none⟩)] w (Dr B w g fun v w' => ∃ s : DState, IsState w.heap.size w' v s) := by
 have hc0 := h; have E0 : Upd w w [g] := Upd.refl _ _
 have hg0 := h.lt
 go_enter Tryz.func61, Tryz.ntmps61
 go_wp2_with fail
 refine (sNewState_c _).mono ?_
 rintro e w1 ⟨rfl, hx1⟩
 have hz1 := hx1.size; (try simp only [szA] at hz1)
 have E1 : Upd w w1 [g] := Upd.ext (by exact updT) hx1
 have hc1 : Cur B w1 g := Cur.ext (by exact curT) hx1
 have KR1 : Blk w1 w.heap.size 63 #[.int .i64 0, .int .i64 0, .slice none 0 0, .slice none 0 0, .int .i64 0, .int .i64 0, .int .i64 0] := Blk.ext (Blk.cast (by exact blkT) (by first | rfl | simp)) hx1
 clear hx1
 have CR1 := KR1.cell; have FR1 := KR1.frozen; have LR1 := KR1.lt
 go_wp2_with fail
 refine (l1Below_c (show Cur B _ g from by exact curT) 16).mono ?_
 rintro e w2 ⟨_, rfl, X2, hc2, n, rfl, pn, qn, rn⟩
 have hz2 := X2.size; (try simp only [szA] at hz2)
 have E2 : Upd w w2 [g] := Upd.trans (by exact updT) X2
 have KR2 : Blk w2 w.heap.size 63 #[.int .i64 0, .int .i64 0, .slice none 0 0, .slice none 0 0, .int .i64 0, .int .i64 0, .int .i64 0] := Blk.upd1 (Blk.cast (by exact blkT) (by first | rfl | simp)) X2 (by omega)
 clear X2
 clear CR1 FR1 LR1
 have CR2 := KR2.cell; have FR2 := KR2.frozen; have LR2 := KR2.lt
 have qn := qn (by decide); clear rn
 obtain ⟨N, rfl⟩ := Int.eq_ofNat_of_zero_le pn
 go_wp2_with fail
 refine (drawEntries_c (show Cur B _ g from by exact curT) (M := w.heap.size) (by omega) (IsState.nil _ _) (by omega) N (by omega)).mono ?_
 rintro e w3 ⟨_, rfl, X3, hc3, u, x, l, s, rfl, Ol, hl, hs, hok⟩
 have hz3 := X3.size; (try simp only [szA] at hz3)
 have E3 : Upd w w3 [g] := Upd.trans (by exact updT) X3
 have KR3 : Blk w3 w.heap.size 63 #[.int .i64 0, .int .i64 0, .slice none 0 0, .slice none 0 0, .int .i64 0, .int .i64 0, .int .i64 0] := Blk.upd1 (Blk.cast (by exact blkT) (by first | rfl | simp)) X3 (by omega)
 clear X3
 clear CR2 FR2 LR2
 have CR3 := KR3.cell; have FR3 := KR3.frozen; have LR3 := KR3.lt
 obtain ⟨t2, t3, rfl, h2, h3⟩ := hs
 obtain ⟨a2, n2, k2, rfl⟩ := h2.shape
 obtain ⟨a3, n3, k3, rfl⟩ := h3.shape
 have Op3 := h2; have Oj3 := h3; clear h2 h3
 go_wp2_with fail
 refine (l1Once_c (show Cur B _ g from by exact curT) 20).mono ?_
 rintro e w4 ⟨_, rfl, X4, hc4, b1, rfl⟩
 have hz4 := X4.size; (try simp only [szA] at hz4)
 have E4 : Upd w w4 [g] := Upd.trans (by exact updT) X4
 have KR4 : Blk w4 w.heap.size 63 #[.int .i64 0, .int .i64 0, .slice none 0 0, .slice none 0 0, .int .i64 0, .int .i64 0, .int .i64 0] := Blk.upd1 (Blk.cast (by exact blkT) (by first | rfl | simp)) X4 (by omega)
 have KD4 : Blk w4 w3.heap.size 63 #[.int .i64 s.Index, .int .i64 s.Time, .slice a2 n2 k2, .slice a3 n3 k3, .int .i64 s.Lease.Holder, .int .i64 s.Lease.Epoch, .int .i64 s.Lease.Until] := Blk.upd1 (Blk.cast (by exact blkT) (by first | rfl | simp)) X4 (by omega)
 have Op4 : OwnI w.heap.size 157 2 w4 (.slice a2 n2 k2) (flPair s.Pairs) := OwnI.drawn (by first | (with_reducible exact Op3) | (refine OwnI.updX Op3 KR3 (by decide) ?_; (exact updT); done) | (refine OwnI.updX Op3 KD3 (by decide) ?_; (exact updT); done) | (refine OwnI.updX2 Op3 KR3 KD3 (by decide) (by decide) ?_; (exact upd2T); done) | (exact ownT)) X4 (by omega)
 have Oj4 : OwnI w.heap.size 142 5 w4 (.slice a3 n3 k3) (flJob s.Jobs) := OwnI.drawn (by first | (with_reducible exact Oj3) | (refine OwnI.updX Oj3 KR3 (by decide) ?_; (exact updT); done) | (refine OwnI.updX Oj3 KD3 (by decide) ?_; (exact updT); done) | (refine OwnI.updX2 Oj3 KR3 KD3 (by decide) (by decide) ?_; (exact upd2T); done) | (exact ownT)) X4 (by omega)
 clear X4
 clear CR3 FR3 LR3
 have CR4 := KR4.cell; have FR4 := KR4.frozen; have LR4 := KR4.lt
 have CD4 := KD4.cell; have FD4 := KD4.frozen; have LD4 := KD4.lt
 cases b1
 rotate_left
 ·
  skip
  go_wp2_with fail
  refine (l1Below_c (show Cur B _ g from by exact curT) 2).mono ?_
  rintro e w5 ⟨_, rfl, X5, hc5, y, rfl, py, qy, ry⟩
  have hz5 := X5.size; (try simp only [szA] at hz5)
  have E5 : Upd w w5 [g] := Upd.trans (by exact updT) X5
  have KR5 : Blk w5 w.heap.size 63 #[.int .i64 0, .int .i64 0, .slice none 0 0, .slice none 0 0, .int .i64 0, .int .i64 0, .int .i64 0] := Blk.upd1 (Blk.cast (by exact blkT) (by first | rfl | simp)) X5 (by omega)
  have KD5 : Blk w5 w3.heap.size 63 #[.int .i64 s.Index, .int .i64 s.Time, .slice a2 n2 k2, .slice a3 n3 k3, .int .i64 s.Lease.Holder, .int .i64 s.Lease.Epoch, .int .i64 s.Lease.Until] := Blk.upd1 (Blk.cast (by exact blkT) (by first | rfl | simp)) X5 (by omega)
  have Op5 : OwnI w.heap.size 157 2 w5 (.slice a2 n2 k2) (flPair s.Pairs) := OwnI.drawn (by first | (with_reducible exact Op4) | (refine OwnI.updX Op4 KR4 (by decide) ?_; (exact updT); done) | (refine OwnI.updX Op4 KD4 (by decide) ?_; (exact updT); done) | (refine OwnI.updX2 Op4 KR4 KD4 (by decide) (by decide) ?_; (exact upd2T); done) | (exact ownT)) X5 (by omega)
  have Oj5 : OwnI w.heap.size 142 5 w5 (.slice a3 n3 k3) (flJob s.Jobs) := OwnI.drawn (by first | (with_reducible exact Oj4) | (refine OwnI.updX Oj4 KR4 (by decide) ?_; (exact updT); done) | (refine OwnI.updX Oj4 KD4 (by decide) ?_; (exact updT); done) | (refine OwnI.updX2 Oj4 KR4 KD4 (by decide) (by decide) ?_; (exact upd2T); done) | (exact ownT)) X5 (by omega)
  clear X5
  clear CR4 FR4 LR4 CD4 FD4 LD4
  have CR5 := KR5.cell; have FR5 := KR5.frozen; have LR5 := KR5.lt
  have CD5 := KD5.cell; have FD5 := KD5.frozen; have LD5 := KD5.lt
  have qy := qy (by decide); clear ry
  go_wp2_with fail
  refine (l1Once_c (show Cur B _ g from by exact curT) 20).mono ?_
  rintro e w6 ⟨_, rfl, X6, hc6, b2, rfl⟩
  have hz6 := X6.size; (try simp only [szA] at hz6)
  have E6 : Upd w w6 [g] := Upd.trans (by exact updT) X6
  have KR6 : Blk w6 w.heap.size 63 #[.int .i64 0, .int .i64 0, .slice none 0 0, .slice none 0 0, .int .i64 0, .int .i64 0, .int .i64 0] := Blk.upd1 (Blk.cast (by exact blkT) (by first | rfl | simp)) X6 (by omega)
  have KD6 : Blk w6 w3.heap.size 63 #[.int .i64 (2000 - y), .int .i64 s.Time, .slice a2 n2 k2, .slice a3 n3 k3, .int .i64 s.Lease.Holder, .int .i64 s.Lease.Epoch, .int .i64 s.Lease.Until] := Blk.upd1 (Blk.cast (by exact blkT) (by first | rfl | simp)) X6 (by omega)
  have Op6 : OwnI w.heap.size 157 2 w6 (.slice a2 n2 k2) (flPair s.Pairs) := OwnI.drawn (by first | (with_reducible exact Op5) | (refine OwnI.updX Op5 KR5 (by decide) ?_; (exact updT); done) | (refine OwnI.updX Op5 KD5 (by decide) ?_; (exact updT); done) | (refine OwnI.updX2 Op5 KR5 KD5 (by decide) (by decide) ?_; (exact upd2T); done) | (exact ownT)) X6 (by omega)
  have Oj6 : OwnI w.heap.size 142 5 w6 (.slice a3 n3 k3) (flJob s.Jobs) := OwnI.drawn (by first | (with_reducible exact Oj5) | (refine OwnI.updX Oj5 KR5 (by decide) ?_; (exact updT); done) | (refine OwnI.updX Oj5 KD5 (by decide) ?_; (exact updT); done) | (refine OwnI.updX2 Oj5 KR5 KD5 (by decide) (by decide) ?_; (exact upd2T); done) | (exact ownT)) X6 (by omega)
  clear X6
  clear CR5 FR5 LR5 CD5 FD5 LD5
  have CR6 := KR6.cell; have FR6 := KR6.frozen; have LR6 := KR6.lt
  have CD6 := KD6.cell; have FD6 := KD6.frozen; have LD6 := KD6.lt
  cases b2
  rotate_left
  ·
   skip
   go_wp2_with fail
   refine (l1Below_c (show Cur B _ g from by exact curT) 8).mono ?_
   rintro e w7 ⟨_, rfl, X7, hc7, z, rfl, pz, qz, rz⟩
   have hz7 := X7.size; (try simp only [szA] at hz7)
   have E7 : Upd w w7 [g] := Upd.trans (by exact updT) X7
   have KR7 : Blk w7 w.heap.size 63 #[.int .i64 0, .int .i64 0, .slice none 0 0, .slice none 0 0, .int .i64 0, .int .i64 0, .int .i64 0] := Blk.upd1 (Blk.cast (by exact blkT) (by first | rfl | simp)) X7 (by omega)
   have KD7 : Blk w7 w3.heap.size 63 #[.int .i64 (2000 - y), .int .i64 s.Time, .slice a2 n2 k2, .slice a3 n3 k3, .int .i64 s.Lease.Holder, .int .i64 s.Lease.Epoch, .int .i64 s.Lease.Until] := Blk.upd1 (Blk.cast (by exact blkT) (by first | rfl | simp)) X7 (by omega)
   have Op7 : OwnI w.heap.size 157 2 w7 (.slice a2 n2 k2) (flPair s.Pairs) := OwnI.drawn (by first | (with_reducible exact Op6) | (refine OwnI.updX Op6 KR6 (by decide) ?_; (exact updT); done) | (refine OwnI.updX Op6 KD6 (by decide) ?_; (exact updT); done) | (refine OwnI.updX2 Op6 KR6 KD6 (by decide) (by decide) ?_; (exact upd2T); done) | (exact ownT)) X7 (by omega)
   have Oj7 : OwnI w.heap.size 142 5 w7 (.slice a3 n3 k3) (flJob s.Jobs) := OwnI.drawn (by first | (with_reducible exact Oj6) | (refine OwnI.updX Oj6 KR6 (by decide) ?_; (exact updT); done) | (refine OwnI.updX Oj6 KD6 (by decide) ?_; (exact updT); done) | (refine OwnI.updX2 Oj6 KR6 KD6 (by decide) (by decide) ?_; (exact upd2T); done) | (exact ownT)) X7 (by omega)
   clear X7
   clear CR6 FR6 LR6 CD6 FD6 LD6
   have CR7 := KR7.cell; have FR7 := KR7.frozen; have LR7 := KR7.lt
   have CD7 := KD7.cell; have FD7 := KD7.frozen; have LD7 := KD7.lt
   have qz := qz (by decide); clear rz
   go_wp2_with fail
   refine bodyPost_ret (by simp [results, Tryz.results61, go_sem, CR7, FR7, LR7, CD7, FD7, LD7]; try rfl) rfl ?_
   exact ⟨_, rfl, by exact updT, by exact curT, ⟨(2000 - y), (1000000 - z), s.Pairs, s.Jobs, s.Lease⟩, ⟨_, _, rfl, OwnI.mono (by first | (with_reducible exact Op7) | (refine OwnI.drawn Op7 ?_ (by omega); (exact updT); done) | (refine OwnI.updX Op7 KR7 (by decide) ?_; (exact updT); done) | (refine OwnI.updX Op7 KD7 (by decide) ?_; (exact updT); done) | (refine OwnI.updX2 Op7 KR7 KD7 (by decide) (by decide) ?_; (exact upd2T); done)) (by omega), OwnI.mono (by first | (with_reducible exact Oj7) | (refine OwnI.drawn Oj7 ?_ (by omega); (exact updT); done) | (refine OwnI.updX Oj7 KR7 (by decide) ?_; (exact updT); done) | (refine OwnI.updX Oj7 KD7 (by decide) ?_; (exact updT); done) | (refine OwnI.updX2 Oj7 KR7 KD7 (by decide) (by decide) ?_; (exact upd2T); done)) (by omega)⟩⟩
  ·
   skip
   go_wp2_with fail
   refine bodyPost_ret (by simp [results, Tryz.results61, go_sem, CR6, FR6, LR6, CD6, FD6, LD6]; try rfl) rfl ?_
   exact ⟨_, rfl, by exact updT, by exact curT, ⟨(2000 - y), s.Time, s.Pairs, s.Jobs, s.Lease⟩, ⟨_, _, rfl, OwnI.mono (by first | (with_reducible exact Op6) | (refine OwnI.drawn Op6 ?_ (by omega); (exact updT); done) | (refine OwnI.updX Op6 KR6 (by decide) ?_; (exact updT); done) | (refine OwnI.updX Op6 KD6 (by decide) ?_; (exact updT); done) | (refine OwnI.updX2 Op6 KR6 KD6 (by decide) (by decide) ?_; (exact upd2T); done)) (by omega), OwnI.mono (by first | (with_reducible exact Oj6) | (refine OwnI.drawn Oj6 ?_ (by omega); (exact updT); done) | (refine OwnI.updX Oj6 KR6 (by decide) ?_; (exact updT); done) | (refine OwnI.updX Oj6 KD6 (by decide) ?_; (exact updT); done) | (refine OwnI.updX2 Oj6 KR6 KD6 (by decide) (by decide) ?_; (exact upd2T); done)) (by omega)⟩⟩
 ·
  skip
  go_wp2_with fail
  refine (l1Once_c (show Cur B _ g from by exact curT) 20).mono ?_
  rintro e w5 ⟨_, rfl, X5, hc5, b2, rfl⟩
  have hz5 := X5.size; (try simp only [szA] at hz5)
  have E5 : Upd w w5 [g] := Upd.trans (by exact updT) X5
  have KR5 : Blk w5 w.heap.size 63 #[.int .i64 0, .int .i64 0, .slice none 0 0, .slice none 0 0, .int .i64 0, .int .i64 0, .int .i64 0] := Blk.upd1 (Blk.cast (by exact blkT) (by first | rfl | simp)) X5 (by omega)
  have KD5 : Blk w5 w3.heap.size 63 #[.int .i64 s.Index, .int .i64 s.Time, .slice a2 n2 k2, .slice a3 n3 k3, .int .i64 s.Lease.Holder, .int .i64 s.Lease.Epoch, .int .i64 s.Lease.Until] := Blk.upd1 (Blk.cast (by exact blkT) (by first | rfl | simp)) X5 (by omega)
  have Op5 : OwnI w.heap.size 157 2 w5 (.slice a2 n2 k2) (flPair s.Pairs) := OwnI.drawn (by first | (with_reducible exact Op4) | (refine OwnI.updX Op4 KR4 (by decide) ?_; (exact updT); done) | (refine OwnI.updX Op4 KD4 (by decide) ?_; (exact updT); done) | (refine OwnI.updX2 Op4 KR4 KD4 (by decide) (by decide) ?_; (exact upd2T); done) | (exact ownT)) X5 (by omega)
  have Oj5 : OwnI w.heap.size 142 5 w5 (.slice a3 n3 k3) (flJob s.Jobs) := OwnI.drawn (by first | (with_reducible exact Oj4) | (refine OwnI.updX Oj4 KR4 (by decide) ?_; (exact updT); done) | (refine OwnI.updX Oj4 KD4 (by decide) ?_; (exact updT); done) | (refine OwnI.updX2 Oj4 KR4 KD4 (by decide) (by decide) ?_; (exact upd2T); done) | (exact ownT)) X5 (by omega)
  clear X5
  clear CR4 FR4 LR4 CD4 FD4 LD4
  have CR5 := KR5.cell; have FR5 := KR5.frozen; have LR5 := KR5.lt
  have CD5 := KD5.cell; have FD5 := KD5.frozen; have LD5 := KD5.lt
  cases b2
  rotate_left
  ·
   skip
   go_wp2_with fail
   refine (l1Below_c (show Cur B _ g from by exact curT) 8).mono ?_
   rintro e w6 ⟨_, rfl, X6, hc6, z, rfl, pz, qz, rz⟩
   have hz6 := X6.size; (try simp only [szA] at hz6)
   have E6 : Upd w w6 [g] := Upd.trans (by exact updT) X6
   have KR6 : Blk w6 w.heap.size 63 #[.int .i64 0, .int .i64 0, .slice none 0 0, .slice none 0 0, .int .i64 0, .int .i64 0, .int .i64 0] := Blk.upd1 (Blk.cast (by exact blkT) (by first | rfl | simp)) X6 (by omega)
   have KD6 : Blk w6 w3.heap.size 63 #[.int .i64 s.Index, .int .i64 s.Time, .slice a2 n2 k2, .slice a3 n3 k3, .int .i64 s.Lease.Holder, .int .i64 s.Lease.Epoch, .int .i64 s.Lease.Until] := Blk.upd1 (Blk.cast (by exact blkT) (by first | rfl | simp)) X6 (by omega)
   have Op6 : OwnI w.heap.size 157 2 w6 (.slice a2 n2 k2) (flPair s.Pairs) := OwnI.drawn (by first | (with_reducible exact Op5) | (refine OwnI.updX Op5 KR5 (by decide) ?_; (exact updT); done) | (refine OwnI.updX Op5 KD5 (by decide) ?_; (exact updT); done) | (refine OwnI.updX2 Op5 KR5 KD5 (by decide) (by decide) ?_; (exact upd2T); done) | (exact ownT)) X6 (by omega)
   have Oj6 : OwnI w.heap.size 142 5 w6 (.slice a3 n3 k3) (flJob s.Jobs) := OwnI.drawn (by first | (with_reducible exact Oj5) | (refine OwnI.updX Oj5 KR5 (by decide) ?_; (exact updT); done) | (refine OwnI.updX Oj5 KD5 (by decide) ?_; (exact updT); done) | (refine OwnI.updX2 Oj5 KR5 KD5 (by decide) (by decide) ?_; (exact upd2T); done) | (exact ownT)) X6 (by omega)
   clear X6
   clear CR5 FR5 LR5 CD5 FD5 LD5
   have CR6 := KR6.cell; have FR6 := KR6.frozen; have LR6 := KR6.lt
   have CD6 := KD6.cell; have FD6 := KD6.frozen; have LD6 := KD6.lt
   have qz := qz (by decide); clear rz
   go_wp2_with fail
   refine bodyPost_ret (by simp [results, Tryz.results61, go_sem, CR6, FR6, LR6, CD6, FD6, LD6]; try rfl) rfl ?_
   exact ⟨_, rfl, by exact updT, by exact curT, ⟨s.Index, (1000000 - z), s.Pairs, s.Jobs, s.Lease⟩, ⟨_, _, rfl, OwnI.mono (by first | (with_reducible exact Op6) | (refine OwnI.drawn Op6 ?_ (by omega); (exact updT); done) | (refine OwnI.updX Op6 KR6 (by decide) ?_; (exact updT); done) | (refine OwnI.updX Op6 KD6 (by decide) ?_; (exact updT); done) | (refine OwnI.updX2 Op6 KR6 KD6 (by decide) (by decide) ?_; (exact upd2T); done)) (by omega), OwnI.mono (by first | (with_reducible exact Oj6) | (refine OwnI.drawn Oj6 ?_ (by omega); (exact updT); done) | (refine OwnI.updX Oj6 KR6 (by decide) ?_; (exact updT); done) | (refine OwnI.updX Oj6 KD6 (by decide) ?_; (exact updT); done) | (refine OwnI.updX2 Oj6 KR6 KD6 (by decide) (by decide) ?_; (exact upd2T); done)) (by omega)⟩⟩
  ·
   skip
   go_wp2_with fail
   refine bodyPost_ret (by simp [results, Tryz.results61, go_sem, CR5, FR5, LR5, CD5, FD5, LD5]; try rfl) rfl ?_
   exact ⟨_, rfl, by exact updT, by exact curT, ⟨s.Index, s.Time, s.Pairs, s.Jobs, s.Lease⟩, ⟨_, _, rfl, OwnI.mono (by first | (with_reducible exact Op5) | (refine OwnI.drawn Op5 ?_ (by omega); (exact updT); done) | (refine OwnI.updX Op5 KR5 (by decide) ?_; (exact updT); done) | (refine OwnI.updX Op5 KD5 (by decide) ?_; (exact updT); done) | (refine OwnI.updX2 Op5 KR5 KD5 (by decide) (by decide) ?_; (exact upd2T); done)) (by omega), OwnI.mono (by first | (with_reducible exact Oj5) | (refine OwnI.drawn Oj5 ?_ (by omega); (exact updT); done) | (refine OwnI.updX Oj5 KR5 (by decide) ?_; (exact updT); done) | (refine OwnI.updX Oj5 KD5 (by decide) ?_; (exact updT); done) | (refine OwnI.updX2 Oj5 KR5 KD5 (by decide) (by decide) ?_; (exact upd2T); done)) (by omega)⟩⟩
end Go.Proofs.YtcnioiieiebodaaGreat

-- Draws of a state and an entry.
set_option linter.unusedSimpArgs false
set_option linter.unusedVariables false
namespace Go.Proofs.YtcnioiieiebodaaGreat
open Go.RowKit Go.G8

set_option maxHeartbeats 4000000 in
set_option maxRecDepth 100000 in
theorem l1New_c {w : World} {v : Value} (h : Bytes w v) : Calls Tryz.prog 28 #[v] w (Ret w fun r w' => ∃ g : Nat, r = .pointer (some ⟨g, 0, none⟩) ∧ Cur w.heap.size w' g) := by
 obtain ⟨bs, h, hb⟩ := h
 have HB := Lib.hid hb
 clear hb
 obtain ⟨a, n, k, rfl, hl, hnk, hkm, hc⟩ := h.open_
 clear h
 have HC := Lib.hid hc
 clear hc
 have hl2 : bs.length = n := by simpa using hl
 have HL := Lib.hid hl2
 clear hl hl2
 go_enter Tryz.func28, Tryz.ntmps28
 go_wp2_with fail
 go_loopw [3, 4] (fun hh ii wr => wr = w ∧ ∃ (x : Int) (i : Nat), hh = .int .i64 x ∧ ii = .int .i64 i ∧ i ≤ n) (fun _ ii _ => n - (intOf ii).toNat)
 case atStart => exact ⟨rfl, _, 0, rfl, rfl, Nat.zero_le _⟩
 case round =>
  obtain ⟨rfl, x, i, rfl, rfl, hi⟩ := hrel
  by_cases hlt : i < n
  ·
   obtain ⟨b, off, rfl, hbl, hcl⟩ := HC.out i hlt
   have hy := List.getElem?_eq_getElem (l := bs) (i := i) (by rw [HL.out]; exact hlt)
   have hce := hcl 0 _ (by simp only [Nat.mul_one, Nat.add_zero, List.getElem?_map, hy]; rfl)
   simp only [Nat.mul_one, Nat.add_zero] at hce
   obtain ⟨y, hy0, hy1, hyy⟩ : ∃ y : Int, 0 ≤ y ∧ y ≤ 255 ∧ wr.cell? ⟨b, off + i, none⟩ = some (.int .u8 y) := ⟨_, (HB.out _ (List.getElem_mem _)).1, (HB.out _ (List.getElem_mem _)).2, hce⟩
   clear hce hcl hy
   have hlt2 : (i : Int) < (n : Int) := by omega
   unfold maxLen at hkm
   go_wp2_with fail
   go_roundw
   case rel => exact ⟨by first | rfl | trivial, _, i + 1, rfl, by go_num, by omega⟩
   case measure => simp [intOf]; omega
  ·
   have hin : i = n := by omega
   have hlt2 : ¬ (i : Int) < (n : Int) := by omega
   go_wp2_with fail
   go_ret
   refine ⟨_, rfl, by (first | exact extT | omega), _, rfl, a, n, k, 0, x, ?_, Nat.le_refl _, Nat.zero_le _, hnk, hkm, fun j hj => ?_⟩
   ·
    exact Blk.new _ _ _
   ·
    obtain ⟨b, off, ha, hbl, hcl⟩ := HC.out j hj
    have hy := List.getElem?_eq_getElem (l := bs) (i := j) (by rw [HL.out]; exact hj)
    have hce := hcl 0 _ (by simp only [Nat.mul_one, Nat.add_zero, List.getElem?_map, hy]; rfl)
    simp only [Nat.mul_one, Nat.add_zero] at hce
    exact ⟨b, off, _, ha, hbl, (HB.out _ (List.getElem_mem _)).1, (HB.out _ (List.getElem_mem _)).2, (((Ext.refl _).alloc _).cells.1 _ _ hbl).trans hce⟩

end Go.Proofs.YtcnioiieiebodaaGreat
