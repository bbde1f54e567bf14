/- Contracts and plain laws: DSH. -/
import Derived.Test.YthihnangjghloaaGreatGa
import Derived.Test.YthihnangjghloaaGreatGp
set_option linter.unusedSimpArgs false
set_option linter.unusedVariables false
-- Draws of snapshots.
set_option linter.unusedSimpArgs false
set_option linter.unusedVariables false
namespace Go.Proofs.YthihnangjghloaaGreat
open Go.RowKit Go.G8

set_option maxHeartbeats 4000000 in
set_option maxRecDepth 100000 in
theorem l18Draw_c {B : Nat} {w : World} {g : Nat} (h : Cur B w g) : Calls Tryz.prog 192 #[.pointer (some ⟨g, 0, none⟩)] w (Dr B w g fun v w' => ∃ s : DShot, IsShot w.heap.size w' v s) := by
 have hc0 := h; have E0 : Upd w w [g] := Upd.refl _ _
 have hg0 := h.lt
 go_enter Tryz.func192, Tryz.ntmps192
 go_wp2_with fail
 refine (sNewState_c _).mono ?_
 rintro e w1 ⟨rfl, hx1⟩
 have hz1 := hx1.size; (try simp only [szA] at hz1)
 have E1 : Upd w w1 [g] := Upd.ext (by exact updT) hx1
 have hc1 : Cur B w1 g := Cur.ext (by exact curT) hx1
 have KR1 : Blk w1 w.heap.size 217 #[.int .i64 0, .int .i64 0, .int .i64 0, .slice none 0 0, .slice none 0 0, .int .i64 0, .int .i64 0, .int .i64 0] := Blk.ext (Blk.cast (by exact blkT) (by first | rfl | simp)) hx1
 clear hx1
 have CR1 := KR1.cell; have FR1 := KR1.frozen; have LR1 := KR1.lt
 go_wp2_with fail
 refine (l1Below_c (show Cur B _ g from by exact curT) 18).mono ?_
 rintro e w2 ⟨_, rfl, X2, hc2, n, rfl, pn, qn, rn⟩
 have hz2 := X2.size; (try simp only [szA] at hz2)
 have E2 : Upd w w2 [g] := Upd.trans (by exact updT) X2
 have KR2 : Blk w2 w.heap.size 217 #[.int .i64 0, .int .i64 0, .int .i64 0, .slice none 0 0, .slice none 0 0, .int .i64 0, .int .i64 0, .int .i64 0] := Blk.upd1 (Blk.cast (by exact blkT) (by first | rfl | simp)) X2 (by omega)
 clear X2
 clear CR1 FR1 LR1
 have CR2 := KR2.cell; have FR2 := KR2.frozen; have LR2 := KR2.lt
 have qn := qn (by decide); clear rn
 obtain ⟨N0, rfl⟩ := Int.eq_ofNat_of_zero_le pn
 obtain ⟨N, hN⟩ : ∃ N : Nat, 1 + (N0 : Int) = (N : Int) := ⟨1 + N0, by omega⟩
 go_wp2_with fail
 refine (drawEntries_c (show Cur B _ g from by exact curT) (M := w.heap.size) (by omega) (IsState.nil _ _) (by omega) N (by omega)).mono ?_
 rintro e w3 ⟨_, rfl, X3, hc3, u, x, l, s, rfl, Ol, hl, hs, hok⟩
 have hz3 := X3.size; (try simp only [szA] at hz3)
 have E3 : Upd w w3 [g] := Upd.trans (by exact updT) X3
 have KR3 : Blk w3 w.heap.size 217 #[.int .i64 0, .int .i64 0, .int .i64 0, .slice none 0 0, .slice none 0 0, .int .i64 0, .int .i64 0, .int .i64 0] := Blk.upd1 (Blk.cast (by exact blkT) (by first | rfl | simp)) X3 (by omega)
 clear X3
 clear CR2 FR2 LR2
 have CR3 := KR3.cell; have FR3 := KR3.frozen; have LR3 := KR3.lt
 obtain ⟨t2, t3, rfl, h2, h3⟩ := hs
 obtain ⟨a2, n2, k2, rfl⟩ := h2.shape
 obtain ⟨a3, n3, k3, rfl⟩ := h3.shape
 have Op3 := h2; have Oj3 := h3; clear h2 h3
 go_wp2_with fail
 refine (l1Once_c (show Cur B _ g from by exact curT) 3).mono ?_
 rintro e w4 ⟨_, rfl, X4, hc4, b1, rfl⟩
 have hz4 := X4.size; (try simp only [szA] at hz4)
 have E4 : Upd w w4 [g] := Upd.trans (by exact updT) X4
 have KR4 : Blk w4 w.heap.size 217 #[.int .i64 0, .int .i64 0, .int .i64 0, .slice none 0 0, .slice none 0 0, .int .i64 0, .int .i64 0, .int .i64 0] := Blk.upd1 (Blk.cast (by exact blkT) (by first | rfl | simp)) X4 (by omega)
 have KD4 : Blk w4 w3.heap.size 63 #[.int .i64 s.Index, .int .i64 s.Time, .slice a2 n2 k2, .slice a3 n3 k3, .int .i64 s.Lease.Holder, .int .i64 s.Lease.Epoch, .int .i64 s.Lease.Until] := Blk.upd1 (Blk.cast (by exact blkT) (by first | rfl | simp)) X4 (by omega)
 have Op4 : OwnI w.heap.size 117 2 w4 (.slice a2 n2 k2) (flPair s.Pairs) := OwnI.drawn (by first | (with_reducible exact Op3) | (refine OwnI.updX Op3 KR3 (by decide) ?_; (exact updT); done) | (refine OwnI.updX Op3 KD3 (by decide) ?_; (exact updT); done) | (refine OwnI.updX2 Op3 KR3 KD3 (by decide) (by decide) ?_; (exact upd2T); done) | (exact ownT)) X4 (by omega)
 have Oj4 : OwnI w.heap.size 146 5 w4 (.slice a3 n3 k3) (flJob s.Jobs) := OwnI.drawn (by first | (with_reducible exact Oj3) | (refine OwnI.updX Oj3 KR3 (by decide) ?_; (exact updT); done) | (refine OwnI.updX Oj3 KD3 (by decide) ?_; (exact updT); done) | (refine OwnI.updX2 Oj3 KR3 KD3 (by decide) (by decide) ?_; (exact upd2T); done) | (exact ownT)) X4 (by omega)
 clear X4
 clear CR3 FR3 LR3
 have CR4 := KR4.cell; have FR4 := KR4.frozen; have LR4 := KR4.lt
 have CD4 := KD4.cell; have FD4 := KD4.frozen; have LD4 := KD4.lt
 cases b1
 rotate_left
 ·
  skip
  go_wp2_with fail
  refine wp_region_held_drew (S := fun w' => Upd w w' [g] ∧ Cur B w' g) (by kernel_rfl) (by (try dsimp only); exact ⟨(by exact updT), (by exact curT)⟩) (fun hHeld => ?_)
  refine wpAnyH_take (i := 0) (v := ?_) rfl (by kernel_rfl) (by kernel_rfl) (by kernel_rfl) (fun _ _ _ h => h) (Or.inl ⟨by rfl, ?_⟩) (by assumption) ?_
  rotate_left
  focus (intro w hSw; (try dsimp only at hSw); go_simp <;> with_reducible rfl)
  (try simp only [redA, Act.put])
  refine wpAnyH_take (i := 2) (v := ?_) rfl (by kernel_rfl) (by kernel_rfl) (by kernel_rfl) (fun _ _ _ h => h) (Or.inl ⟨by rfl, ?_⟩) (by assumption) ?_
  rotate_left
  focus (intro w hSw; (try dsimp only at hSw); go_simp <;> with_reducible rfl)
  (try simp only [redA, Act.put])
  refine wpAnyH_ready (rs := [1, 3]) (by kernel_rfl) (by simp) ?_
  refine AllReadyH.cons rfl (fun Kz hKz => ?_) (AllReadyH.cons rfl (fun Kz hKz => ?_) AllReadyH.nil)
  ·
   skip
   (try simp only [redA])
   go_simp
   refine hKz.out _ _ (by (try dsimp only); exact ⟨(by exact updT), (by exact curT)⟩) (fun hHeld => ?_)
   clear hKz Kz
   (try simp only [redA, Act.put])
   refine wpAnyH_ready (rs := [3]) (by kernel_rfl) (by simp) ?_
   refine AllReadyH.cons rfl (fun Kz hKz => ?_) AllReadyH.nil
   (try simp only [redA])
   go_simp
   go_at_call 35
   refine (l1Below_c (show Cur B _ g from by exact curT) 20).mono ?_
   rintro e w5 ⟨_, rfl, X5, hc5, x0, rfl, px0, qx0, rx0⟩
   have hz5 := X5.size; (try simp only [szA] at hz5)
   have E5 : Upd w w5 [g] := Upd.trans (by exact updT) X5
   have KR5 : Blk w5 w.heap.size 217 #[.int .i64 0, .int .i64 0, .int .i64 0, .slice none 0 0, .slice none 0 0, .int .i64 0, .int .i64 0, .int .i64 0] := Blk.upd1 (Blk.cast (by exact blkT) (by first | rfl | simp)) X5 (by omega)
   have KD5 : Blk w5 w3.heap.size 63 #[.int .i64 s.Index, .int .i64 s.Time, .slice a2 n2 k2, .slice a3 n3 k3, .int .i64 s.Lease.Holder, .int .i64 s.Lease.Epoch, .int .i64 s.Lease.Until] := Blk.upd1 (Blk.cast (by exact blkT) (by first | rfl | simp)) X5 (by omega)
   have Op5 : OwnI w.heap.size 117 2 w5 (.slice a2 n2 k2) (flPair s.Pairs) := OwnI.drawn (by first | (with_reducible exact Op4) | (refine OwnI.updX Op4 KR4 (by decide) ?_; (exact updT); done) | (refine OwnI.updX Op4 KD4 (by decide) ?_; (exact updT); done) | (refine OwnI.updX2 Op4 KR4 KD4 (by decide) (by decide) ?_; (exact upd2T); done) | (exact ownT)) X5 (by omega)
   have Oj5 : OwnI w.heap.size 146 5 w5 (.slice a3 n3 k3) (flJob s.Jobs) := OwnI.drawn (by first | (with_reducible exact Oj4) | (refine OwnI.updX Oj4 KR4 (by decide) ?_; (exact updT); done) | (refine OwnI.updX Oj4 KD4 (by decide) ?_; (exact updT); done) | (refine OwnI.updX2 Oj4 KR4 KD4 (by decide) (by decide) ?_; (exact upd2T); done) | (exact ownT)) X5 (by omega)
   clear X5
   clear CR4 FR4 LR4 CD4 FD4 LD4
   have CR5 := KR5.cell; have FR5 := KR5.frozen; have LR5 := KR5.lt
   have CD5 := KD5.cell; have FD5 := KD5.frozen; have LD5 := KD5.lt
   refine hKz.out _ _ (by (try dsimp only); exact ⟨(by exact updT), (by exact curT)⟩) (fun hHeld => ?_)
   clear hKz Kz
   (try simp only [redA, Act.put])
   refine wpAnyH_ready (rs := [4]) (by kernel_rfl) (by simp) ?_
   refine AllReadyH.cons rfl (fun Kz hKz => ?_) AllReadyH.nil
   (try simp only [redA])
   have qx0 := qx0 (by decide); clear rx0
   obtain ⟨N2, rfl⟩ := Int.eq_ofNat_of_zero_le px0
   go_simp
   go_at_call 118
   refine (drawEntries_c (show Cur B _ g from by exact curT) (M := w.heap.size) (by omega) (s := s) ⟨_, _, rfl, (by exact ownT), (by exact ownT)⟩ (by first | omega | (simp only [szA]; omega)) N2 (by omega)).mono ?_
   rintro e w6 ⟨_, rfl, X6, hc6, u2, x2, l2, s2, rfl, Ol2, hl2, hs2, hok2⟩
   have hz6 := X6.size; (try simp only [szA] at hz6)
   have E6 : Upd w w6 [g] := Upd.trans (by exact updT) X6
   have KR6 : Blk w6 w.heap.size 217 #[.int .i64 0, .int .i64 0, .int .i64 0, .slice none 0 0, .slice none 0 0, .int .i64 0, .int .i64 0, .int .i64 0] := Blk.upd1 (Blk.cast (by exact blkT) (by first | rfl | simp)) X6 (by omega)
   have KD6 : Blk w6 w3.heap.size 63 #[.int .i64 s.Index, .int .i64 s.Time, .slice a2 n2 k2, .slice a3 n3 k3, .int .i64 s.Lease.Holder, .int .i64 s.Lease.Epoch, .int .i64 s.Lease.Until] := Blk.upd1 (Blk.cast (by exact blkT) (by first | rfl | simp)) X6 (by omega)
   have Op6 : OwnI w.heap.size 117 2 w6 (.slice a2 n2 k2) (flPair s.Pairs) := OwnI.drawn (by first | (with_reducible exact Op5) | (refine OwnI.updX Op5 KR5 (by decide) ?_; (exact updT); done) | (refine OwnI.updX Op5 KD5 (by decide) ?_; (exact updT); done) | (refine OwnI.updX2 Op5 KR5 KD5 (by decide) (by decide) ?_; (exact upd2T); done) | (exact ownT)) X6 (by omega)
   have Oj6 : OwnI w.heap.size 146 5 w6 (.slice a3 n3 k3) (flJob s.Jobs) := OwnI.drawn (by first | (with_reducible exact Oj5) | (refine OwnI.updX Oj5 KR5 (by decide) ?_; (exact updT); done) | (refine OwnI.updX Oj5 KD5 (by decide) ?_; (exact updT); done) | (refine OwnI.updX2 Oj5 KR5 KD5 (by decide) (by decide) ?_; (exact upd2T); done) | (exact ownT)) X6 (by omega)
   clear X6
   clear CR5 FR5 LR5 CD5 FD5 LD5
   have CR6 := KR6.cell; have FR6 := KR6.frozen; have LR6 := KR6.lt
   have CD6 := KD6.cell; have FD6 := KD6.frozen; have LD6 := KD6.lt
   obtain ⟨t4, t5, rfl, h4, h5⟩ := hs2
   obtain ⟨a4, n4, k4, rfl⟩ := h4.shape
   obtain ⟨a5, n5, k5, rfl⟩ := h5.shape
   clear Op6 Oj6
   have Op6 := h4; have Oj6 := h5; clear h4 h5
   refine hKz.out _ _ (by (try dsimp only); exact ⟨(by exact updT), (by exact curT)⟩) (fun hHeld => ?_)
   clear hKz Kz
   (try simp only [redA, Act.put])
   refine wpAnyH_take (i := 5) (v := ?_) rfl (by kernel_rfl) (by kernel_rfl) (by kernel_rfl) (fun _ _ _ h => h) (Or.inl ⟨by rfl, ?_⟩) (by assumption) ?_
   rotate_left
   focus (intro w hSw; (try dsimp only at hSw); go_simp <;> with_reducible rfl)
   (try simp only [redA, Act.put])
   refine wpAnyH_take (i := 6) (v := ?_) rfl (by kernel_rfl) (by kernel_rfl) (by kernel_rfl) (fun _ _ _ h => h) (Or.inl ⟨by rfl, ?_⟩) (by assumption) ?_
   rotate_left
   focus (intro w hSw; (try dsimp only at hSw); go_simp <;> with_reducible rfl)
   (try simp only [redA, Act.put])
   refine wpAnyH_take (i := 7) (v := ?_) rfl (by kernel_rfl) (by kernel_rfl) (by kernel_rfl) (fun _ _ _ h => h) (Or.inl ⟨by rfl, ?_⟩) (by assumption) ?_
   rotate_left
   focus (intro w hSw; (try dsimp only at hSw); go_simp <;> with_reducible rfl)
   (try simp only [redA, Act.put])
   refine wpAnyH_ready (rs := [8]) (by kernel_rfl) (by simp) ?_
   refine AllReadyH.cons rfl (fun Kz hKz => ?_) AllReadyH.nil
   (try simp only [redA])
   go_simp
   refine hKz.out _ _ (by (try dsimp only); exact ⟨(by exact updT), (by exact curT)⟩) (fun hHeld => ?_)
   clear hKz Kz
   (try simp only [redA, Act.put])
   refine wpAnyH_done (by kernel_rfl) ?_ _
   go_wp2_with fail
   refine wp_region_held_drew (S := fun w' => Upd w w' [g] ∧ Cur B w' g ∧ Blk w' w3.heap.size 63 #[.int .i64 s2.Index, .int .i64 s2.Time, .slice a4 n4 k4, .slice a5 n5 k5, .int .i64 s2.Lease.Holder, .int .i64 s2.Lease.Epoch, .int .i64 s2.Lease.Until]) (by kernel_rfl) (by (try dsimp only); exact ⟨(by exact updT), (by exact curT), (Blk.cast (by exact blkT) setsT)⟩) (fun hHeld => ?_)
   refine wpAnyH_take (i := 0) (v := ?_) rfl (by kernel_rfl) (by kernel_rfl) (by kernel_rfl) (fun _ _ _ h => h) (Or.inl ⟨by rfl, ?_⟩) (by assumption) ?_
   rotate_left
   focus (intro w hSw; (try dsimp only at hSw); go_simp <;> with_reducible rfl)
   (try simp only [redA, Act.put])
   refine wpAnyH_take (i := 3) (v := ?_) rfl (by kernel_rfl) (by kernel_rfl) (by kernel_rfl) (fun _ _ _ h => h) (Or.inl ⟨by rfl, ?_⟩) (by assumption) ?_
   rotate_left
   focus (intro w hSw; (try dsimp only at hSw); have hq := hSw.2.2.cell; go_simp <;> with_reducible rfl)
   (try simp only [redA, Act.put])
   refine wpAnyH_ready (rs := [1]) (by kernel_rfl) (by simp) ?_
   refine AllReadyH.cons rfl (fun Kz hKz => ?_) AllReadyH.nil
   (try simp only [redA])
   go_simp
   go_at_call 35
   refine (l1Below_c (show Cur B _ g from by exact curT) 6).mono ?_
   rintro e w7 ⟨_, rfl, X7, hc7, z, rfl, pz, qz, rz⟩
   have hz7 := X7.size; (try simp only [szA] at hz7)
   have E7 : Upd w w7 [g] := Upd.trans (by exact updT) X7
   have KR7 : Blk w7 w.heap.size 217 #[.int .i64 0, .int .i64 0, .int .i64 0, .slice none 0 0, .slice none 0 0, .int .i64 0, .int .i64 0, .int .i64 0] := Blk.upd1 (Blk.cast (by exact blkT) (by first | rfl | simp)) X7 (by omega)
   have KD7 : Blk w7 w3.heap.size 63 #[.int .i64 s2.Index, .int .i64 s2.Time, .slice a4 n4 k4, .slice a5 n5 k5, .int .i64 s2.Lease.Holder, .int .i64 s2.Lease.Epoch, .int .i64 s2.Lease.Until] := Blk.upd1 (Blk.cast (by exact blkT) (by first | rfl | simp)) X7 (by omega)
   have Op7 : OwnI w.heap.size 117 2 w7 (.slice a4 n4 k4) (flPair s2.Pairs) := OwnI.drawn (by first | (with_reducible exact Op6) | (refine OwnI.updX Op6 KR6 (by decide) ?_; (exact updT); done) | (refine OwnI.updX Op6 KD6 (by decide) ?_; (exact updT); done) | (refine OwnI.updX2 Op6 KR6 KD6 (by decide) (by decide) ?_; (exact upd2T); done) | (exact ownT)) X7 (by omega)
   have Oj7 : OwnI w.heap.size 146 5 w7 (.slice a5 n5 k5) (flJob s2.Jobs) := OwnI.drawn (by first | (with_reducible exact Oj6) | (refine OwnI.updX Oj6 KR6 (by decide) ?_; (exact updT); done) | (refine OwnI.updX Oj6 KD6 (by decide) ?_; (exact updT); done) | (refine OwnI.updX2 Oj6 KR6 KD6 (by decide) (by decide) ?_; (exact upd2T); done) | (exact ownT)) X7 (by omega)
   clear X7
   clear CR6 FR6 LR6 CD6 FD6 LD6
   have CR7 := KR7.cell; have FR7 := KR7.frozen; have LR7 := KR7.lt
   have CD7 := KD7.cell; have FD7 := KD7.frozen; have LD7 := KD7.lt
   have qz := qz (by decide); clear rz
   refine hKz.out _ _ (by (try dsimp only); exact ⟨(by exact updT), (by exact curT), (Blk.cast (by exact blkT) setsT)⟩) (fun hHeld => ?_)
   clear hKz Kz
   (try simp only [redA, Act.put])
   refine wpAnyH_take (i := 2) (v := ?_) rfl (by kernel_rfl) (by kernel_rfl) (by kernel_rfl) (fun _ _ _ h => h) (Or.inl ⟨by rfl, ?_⟩) (by assumption) ?_
   rotate_left
   focus (intro w hSw; (try dsimp only at hSw); go_simp <;> with_reducible rfl)
   (try simp only [redA, Act.put])
   refine wpAnyH_take (i := 4) (v := ?_) rfl (by kernel_rfl) (by kernel_rfl) (by kernel_rfl) (fun _ _ _ h => h) (Or.inl ⟨by rfl, ?_⟩) (by assumption) ?_
   rotate_left
   focus (intro w hSw; (try dsimp only at hSw); go_simp <;> with_reducible rfl)
   (try simp only [redA, Act.put])
   refine wpAnyH_ready (rs := [5]) (by kernel_rfl) (by simp) ?_
   refine AllReadyH.cons rfl (fun Kz hKz => ?_) AllReadyH.nil
   (try simp only [redA])
   go_simp
   refine hKz.out _ _ (by (try dsimp only); exact ⟨(by exact updT), (by exact curT), (Blk.cast (by exact blkT) setsT)⟩) (fun hHeld => ?_)
   clear hKz Kz
   (try simp only [redA, Act.put])
   refine wpAnyH_done (by kernel_rfl) ?_ _
   go_wp2_with fail
   refine bodyPost_ret (by simp [results, Tryz.results192, go_sem, CR7, FR7, LR7, CD7, FD7, LD7]; try rfl) rfl ?_
   exact ⟨_, rfl, by exact updT, by exact curT, ⟨_, s2⟩, ⟨_, _, rfl, OwnI.mono (by first | (with_reducible exact Op7) | (refine OwnI.drawn Op7 ?_ (by omega); (exact updT); done) | (refine OwnI.updX Op7 KR7 (by decide) ?_; (exact updT); done) | (refine OwnI.updX Op7 KD7 (by decide) ?_; (exact updT); done) | (refine OwnI.updX2 Op7 KR7 KD7 (by decide) (by decide) ?_; (exact upd2T); done)) (by omega), OwnI.mono (by first | (with_reducible exact Oj7) | (refine OwnI.drawn Oj7 ?_ (by omega); (exact updT); done) | (refine OwnI.updX Oj7 KR7 (by decide) ?_; (exact updT); done) | (refine OwnI.updX Oj7 KD7 (by decide) ?_; (exact updT); done) | (refine OwnI.updX2 Oj7 KR7 KD7 (by decide) (by decide) ?_; (exact upd2T); done)) (by omega)⟩⟩
  ·
   skip
   (try simp only [redA])
   go_simp
   go_at_call 35
   refine (l1Below_c (show Cur B _ g from by exact curT) 20).mono ?_
   rintro e w5 ⟨_, rfl, X5, hc5, x0, rfl, px0, qx0, rx0⟩
   have hz5 := X5.size; (try simp only [szA] at hz5)
   have E5 : Upd w w5 [g] := Upd.trans (by exact updT) X5
   have KR5 : Blk w5 w.heap.size 217 #[.int .i64 0, .int .i64 0, .int .i64 0, .slice none 0 0, .slice none 0 0, .int .i64 0, .int .i64 0, .int .i64 0] := Blk.upd1 (Blk.cast (by exact blkT) (by first | rfl | simp)) X5 (by omega)
   have KD5 : Blk w5 w3.heap.size 63 #[.int .i64 s.Index, .int .i64 s.Time, .slice a2 n2 k2, .slice a3 n3 k3, .int .i64 s.Lease.Holder, .int .i64 s.Lease.Epoch, .int .i64 s.Lease.Until] := Blk.upd1 (Blk.cast (by exact blkT) (by first | rfl | simp)) X5 (by omega)
   have Op5 : OwnI w.heap.size 117 2 w5 (.slice a2 n2 k2) (flPair s.Pairs) := OwnI.drawn (by first | (with_reducible exact Op4) | (refine OwnI.updX Op4 KR4 (by decide) ?_; (exact updT); done) | (refine OwnI.updX Op4 KD4 (by decide) ?_; (exact updT); done) | (refine OwnI.updX2 Op4 KR4 KD4 (by decide) (by decide) ?_; (exact upd2T); done) | (exact ownT)) X5 (by omega)
   have Oj5 : OwnI w.heap.size 146 5 w5 (.slice a3 n3 k3) (flJob s.Jobs) := OwnI.drawn (by first | (with_reducible exact Oj4) | (refine OwnI.updX Oj4 KR4 (by decide) ?_; (exact updT); done) | (refine OwnI.updX Oj4 KD4 (by decide) ?_; (exact updT); done) | (refine OwnI.updX2 Oj4 KR4 KD4 (by decide) (by decide) ?_; (exact upd2T); done) | (exact ownT)) X5 (by omega)
   clear X5
   clear CR4 FR4 LR4 CD4 FD4 LD4
   have CR5 := KR5.cell; have FR5 := KR5.frozen; have LR5 := KR5.lt
   have CD5 := KD5.cell; have FD5 := KD5.frozen; have LD5 := KD5.lt
   refine hKz.out _ _ (by (try dsimp only); exact ⟨(by exact updT), (by exact curT)⟩) (fun hHeld => ?_)
   clear hKz Kz
   (try simp only [redA, Act.put])
   refine wpAnyH_ready (rs := [1]) (by kernel_rfl) (by simp) ?_
   refine AllReadyH.cons rfl (fun Kz hKz => ?_) AllReadyH.nil
   (try simp only [redA])
   go_simp
   refine hKz.out _ _ (by (try dsimp only); exact ⟨(by exact updT), (by exact curT)⟩) (fun hHeld => ?_)
   clear hKz Kz
   (try simp only [redA, Act.put])
   refine wpAnyH_ready (rs := [4]) (by kernel_rfl) (by simp) ?_
   refine AllReadyH.cons rfl (fun Kz hKz => ?_) AllReadyH.nil
   (try simp only [redA])
   have qx0 := qx0 (by decide); clear rx0
   obtain ⟨N2, rfl⟩ := Int.eq_ofNat_of_zero_le px0
   go_simp
   go_at_call 118
   refine (drawEntries_c (show Cur B _ g from by exact curT) (M := w.heap.size) (by omega) (s := s) ⟨_, _, rfl, (by exact ownT), (by exact ownT)⟩ (by first | omega | (simp only [szA]; omega)) N2 (by omega)).mono ?_
   rintro e w6 ⟨_, rfl, X6, hc6, u2, x2, l2, s2, rfl, Ol2, hl2, hs2, hok2⟩
   have hz6 := X6.size; (try simp only [szA] at hz6)
   have E6 : Upd w w6 [g] := Upd.trans (by exact updT) X6
   have KR6 : Blk w6 w.heap.size 217 #[.int .i64 0, .int .i64 0, .int .i64 0, .slice none 0 0, .slice none 0 0, .int .i64 0, .int .i64 0, .int .i64 0] := Blk.upd1 (Blk.cast (by exact blkT) (by first | rfl | simp)) X6 (by omega)
   have KD6 : Blk w6 w3.heap.size 63 #[.int .i64 s.Index, .int .i64 s.Time, .slice a2 n2 k2, .slice a3 n3 k3, .int .i64 s.Lease.Holder, .int .i64 s.Lease.Epoch, .int .i64 s.Lease.Until] := Blk.upd1 (Blk.cast (by exact blkT) (by first | rfl | simp)) X6 (by omega)
   have Op6 : OwnI w.heap.size 117 2 w6 (.slice a2 n2 k2) (flPair s.Pairs) := OwnI.drawn (by first | (with_reducible exact Op5) | (refine OwnI.updX Op5 KR5 (by decide) ?_; (exact updT); done) | (refine OwnI.updX Op5 KD5 (by decide) ?_; (exact updT); done) | (refine OwnI.updX2 Op5 KR5 KD5 (by decide) (by decide) ?_; (exact upd2T); done) | (exact ownT)) X6 (by omega)
   have Oj6 : OwnI w.heap.size 146 5 w6 (.slice a3 n3 k3) (flJob s.Jobs) := OwnI.drawn (by first | (with_reducible exact Oj5) | (refine OwnI.updX Oj5 KR5 (by decide) ?_; (exact updT); done) | (refine OwnI.updX Oj5 KD5 (by decide) ?_; (exact updT); done) | (refine OwnI.updX2 Oj5 KR5 KD5 (by decide) (by decide) ?_; (exact upd2T); done) | (exact ownT)) X6 (by omega)
   clear X6
   clear CR5 FR5 LR5 CD5 FD5 LD5
   have CR6 := KR6.cell; have FR6 := KR6.frozen; have LR6 := KR6.lt
   have CD6 := KD6.cell; have FD6 := KD6.frozen; have LD6 := KD6.lt
   obtain ⟨t4, t5, rfl, h4, h5⟩ := hs2
   obtain ⟨a4, n4, k4, rfl⟩ := h4.shape
   obtain ⟨a5, n5, k5, rfl⟩ := h5.shape
   clear Op6 Oj6
   have Op6 := h4; have Oj6 := h5; clear h4 h5
   refine hKz.out _ _ (by (try dsimp only); exact ⟨(by exact updT), (by exact curT)⟩) (fun hHeld => ?_)
   clear hKz Kz
   (try simp only [redA, Act.put])
   refine wpAnyH_take (i := 5) (v := ?_) rfl (by kernel_rfl) (by kernel_rfl) (by kernel_rfl) (fun _ _ _ h => h) (Or.inl ⟨by rfl, ?_⟩) (by assumption) ?_
   rotate_left
   focus (intro w hSw; (try dsimp only at hSw); go_simp <;> with_reducible rfl)
   (try simp only [redA, Act.put])
   refine wpAnyH_take (i := 6) (v := ?_) rfl (by kernel_rfl) (by kernel_rfl) (by kernel_rfl) (fun _ _ _ h => h) (Or.inl ⟨by rfl, ?_⟩) (by assumption) ?_
   rotate_left
   focus (intro w hSw; (try dsimp only at hSw); go_simp <;> with_reducible rfl)
   (try simp only [redA, Act.put])
   refine wpAnyH_take (i := 7) (v := ?_) rfl (by kernel_rfl) (by kernel_rfl) (by kernel_rfl) (fun _ _ _ h => h) (Or.inl ⟨by rfl, ?_⟩) (by assumption) ?_
   rotate_left
   focus (intro w hSw; (try dsimp only at hSw); go_simp <;> with_reducible rfl)
   (try simp only [redA, Act.put])
   refine wpAnyH_ready (rs := [8]) (by kernel_rfl) (by simp) ?_
   refine AllReadyH.cons rfl (fun Kz hKz => ?_) AllReadyH.nil
   (try simp only [redA])
   go_simp
   refine hKz.out _ _ (by (try dsimp only); exact ⟨(by exact updT), (by exact curT)⟩) (fun hHeld => ?_)
   clear hKz Kz
   (try simp only [redA, Act.put])
   refine wpAnyH_done (by kernel_rfl) ?_ _
   go_wp2_with fail
   refine wp_region_held_drew (S := fun w' => Upd w w' [g] ∧ Cur B w' g ∧ Blk w' w3.heap.size 63 #[.int .i64 s2.Index, .int .i64 s2.Time, .slice a4 n4 k4, .slice a5 n5 k5, .int .i64 s2.Lease.Holder, .int .i64 s2.Lease.Epoch, .int .i64 s2.Lease.Until]) (by kernel_rfl) (by (try dsimp only); exact ⟨(by exact updT), (by exact curT), (Blk.cast (by exact blkT) setsT)⟩) (fun hHeld => ?_)
   refine wpAnyH_take (i := 0) (v := ?_) rfl (by kernel_rfl) (by kernel_rfl) (by kernel_rfl) (fun _ _ _ h => h) (Or.inl ⟨by rfl, ?_⟩) (by assumption) ?_
   rotate_left
   focus (intro w hSw; (try dsimp only at hSw); go_simp <;> with_reducible rfl)
   (try simp only [redA, Act.put])
   refine wpAnyH_take (i := 3) (v := ?_) rfl (by kernel_rfl) (by kernel_rfl) (by kernel_rfl) (fun _ _ _ h => h) (Or.inl ⟨by rfl, ?_⟩) (by assumption) ?_
   rotate_left
   focus (intro w hSw; (try dsimp only at hSw); have hq := hSw.2.2.cell; go_simp <;> with_reducible rfl)
   (try simp only [redA, Act.put])
   refine wpAnyH_ready (rs := [1]) (by kernel_rfl) (by simp) ?_
   refine AllReadyH.cons rfl (fun Kz hKz => ?_) AllReadyH.nil
   (try simp only [redA])
   go_simp
   go_at_call 35
   refine (l1Below_c (show Cur B _ g from by exact curT) 6).mono ?_
   rintro e w7 ⟨_, rfl, X7, hc7, z, rfl, pz, qz, rz⟩
   have hz7 := X7.size; (try simp only [szA] at hz7)
   have E7 : Upd w w7 [g] := Upd.trans (by exact updT) X7
   have KR7 : Blk w7 w.heap.size 217 #[.int .i64 0, .int .i64 0, .int .i64 0, .slice none 0 0, .slice none 0 0, .int .i64 0, .int .i64 0, .int .i64 0] := Blk.upd1 (Blk.cast (by exact blkT) (by first | rfl | simp)) X7 (by omega)
   have KD7 : Blk w7 w3.heap.size 63 #[.int .i64 s2.Index, .int .i64 s2.Time, .slice a4 n4 k4, .slice a5 n5 k5, .int .i64 s2.Lease.Holder, .int .i64 s2.Lease.Epoch, .int .i64 s2.Lease.Until] := Blk.upd1 (Blk.cast (by exact blkT) (by first | rfl | simp)) X7 (by omega)
   have Op7 : OwnI w.heap.size 117 2 w7 (.slice a4 n4 k4) (flPair s2.Pairs) := OwnI.drawn (by first | (with_reducible exact Op6) | (refine OwnI.updX Op6 KR6 (by decide) ?_; (exact updT); done) | (refine OwnI.updX Op6 KD6 (by decide) ?_; (exact updT); done) | (refine OwnI.updX2 Op6 KR6 KD6 (by decide) (by decide) ?_; (exact upd2T); done) | (exact ownT)) X7 (by omega)
   have Oj7 : OwnI w.heap.size 146 5 w7 (.slice a5 n5 k5) (flJob s2.Jobs) := OwnI.drawn (by first | (with_reducible exact Oj6) | (refine OwnI.updX Oj6 KR6 (by decide) ?_; (exact updT); done) | (refine OwnI.updX Oj6 KD6 (by decide) ?_; (exact updT); done) | (refine OwnI.updX2 Oj6 KR6 KD6 (by decide) (by decide) ?_; (exact upd2T); done) | (exact ownT)) X7 (by omega)
   clear X7
   clear CR6 FR6 LR6 CD6 FD6 LD6
   have CR7 := KR7.cell; have FR7 := KR7.frozen; have LR7 := KR7.lt
   have CD7 := KD7.cell; have FD7 := KD7.frozen; have LD7 := KD7.lt
   have qz := qz (by decide); clear rz
   refine hKz.out _ _ (by (try dsimp only); exact ⟨(by exact updT), (by exact curT), (Blk.cast (by exact blkT) setsT)⟩) (fun hHeld => ?_)
   clear hKz Kz
   (try simp only [redA, Act.put])
   refine wpAnyH_take (i := 2) (v := ?_) rfl (by kernel_rfl) (by kernel_rfl) (by kernel_rfl) (fun _ _ _ h => h) (Or.inl ⟨by rfl, ?_⟩) (by assumption) ?_
   rotate_left
   focus (intro w hSw; (try dsimp only at hSw); go_simp <;> with_reducible rfl)
   (try simp only [redA, Act.put])
   refine wpAnyH_take (i := 4) (v := ?_) rfl (by kernel_rfl) (by kernel_rfl) (by kernel_rfl) (fun _ _ _ h => h) (Or.inl ⟨by rfl, ?_⟩) (by assumption) ?_
   rotate_left
   focus (intro w hSw; (try dsimp only at hSw); go_simp <;> with_reducible rfl)
   (try simp only [redA, Act.put])
   refine wpAnyH_ready (rs := [5]) (by kernel_rfl) (by simp) ?_
   refine AllReadyH.cons rfl (fun Kz hKz => ?_) AllReadyH.nil
   (try simp only [redA])
   go_simp
   refine hKz.out _ _ (by (try dsimp only); exact ⟨(by exact updT), (by exact curT), (Blk.cast (by exact blkT) setsT)⟩) (fun hHeld => ?_)
   clear hKz Kz
   (try simp only [redA, Act.put])
   refine wpAnyH_done (by kernel_rfl) ?_ _
   go_wp2_with fail
   refine bodyPost_ret (by simp [results, Tryz.results192, go_sem, CR7, FR7, LR7, CD7, FD7, LD7]; try rfl) rfl ?_
   exact ⟨_, rfl, by exact updT, by exact curT, ⟨_, s2⟩, ⟨_, _, rfl, OwnI.mono (by first | (with_reducible exact Op7) | (refine OwnI.drawn Op7 ?_ (by omega); (exact updT); done) | (refine OwnI.updX Op7 KR7 (by decide) ?_; (exact updT); done) | (refine OwnI.updX Op7 KD7 (by decide) ?_; (exact updT); done) | (refine OwnI.updX2 Op7 KR7 KD7 (by decide) (by decide) ?_; (exact upd2T); done)) (by omega), OwnI.mono (by first | (with_reducible exact Oj7) | (refine OwnI.drawn Oj7 ?_ (by omega); (exact updT); done) | (refine OwnI.updX Oj7 KR7 (by decide) ?_; (exact updT); done) | (refine OwnI.updX Oj7 KD7 (by decide) ?_; (exact updT); done) | (refine OwnI.updX2 Oj7 KR7 KD7 (by decide) (by decide) ?_; (exact upd2T); done)) (by omega)⟩⟩
 ·
  skip
  go_wp2_with fail
  refine wp_region_held_drew (S := fun w' => Upd w w' [g] ∧ Cur B w' g ∧ Blk w' w3.heap.size 63 #[.int .i64 s.Index, .int .i64 s.Time, .slice a2 n2 k2, .slice a3 n3 k3, .int .i64 s.Lease.Holder, .int .i64 s.Lease.Epoch, .int .i64 s.Lease.Until]) (by kernel_rfl) (by (try dsimp only); exact ⟨(by exact updT), (by exact curT), (Blk.cast (by exact blkT) setsT)⟩) (fun hHeld => ?_)
  refine wpAnyH_take (i := 0) (v := ?_) rfl (by kernel_rfl) (by kernel_rfl) (by kernel_rfl) (fun _ _ _ h => h) (Or.inl ⟨by rfl, ?_⟩) (by assumption) ?_
  rotate_left
  focus (intro w hSw; (try dsimp only at hSw); go_simp <;> with_reducible rfl)
  (try simp only [redA, Act.put])
  refine wpAnyH_take (i := 3) (v := ?_) rfl (by kernel_rfl) (by kernel_rfl) (by kernel_rfl) (fun _ _ _ h => h) (Or.inl ⟨by rfl, ?_⟩) (by assumption) ?_
  rotate_left
  focus (intro w hSw; (try dsimp only at hSw); have hq := hSw.2.2.cell; go_simp <;> with_reducible rfl)
  (try simp only [redA, Act.put])
  refine wpAnyH_ready (rs := [1]) (by kernel_rfl) (by simp) ?_
  refine AllReadyH.cons rfl (fun Kz hKz => ?_) AllReadyH.nil
  (try simp only [redA])
  go_simp
  go_at_call 35
  refine (l1Below_c (show Cur B _ g from by exact curT) 6).mono ?_
  rintro e w5 ⟨_, rfl, X5, hc5, z, rfl, pz, qz, rz⟩
  have hz5 := X5.size; (try simp only [szA] at hz5)
  have E5 : Upd w w5 [g] := Upd.trans (by exact updT) X5
  have KR5 : Blk w5 w.heap.size 217 #[.int .i64 0, .int .i64 0, .int .i64 0, .slice none 0 0, .slice none 0 0, .int .i64 0, .int .i64 0, .int .i64 0] := Blk.upd1 (Blk.cast (by exact blkT) (by first | rfl | simp)) X5 (by omega)
  have KD5 : Blk w5 w3.heap.size 63 #[.int .i64 s.Index, .int .i64 s.Time, .slice a2 n2 k2, .slice a3 n3 k3, .int .i64 s.Lease.Holder, .int .i64 s.Lease.Epoch, .int .i64 s.Lease.Until] := Blk.upd1 (Blk.cast (by exact blkT) (by first | rfl | simp)) X5 (by omega)
  have Op5 : OwnI w.heap.size 117 2 w5 (.slice a2 n2 k2) (flPair s.Pairs) := OwnI.drawn (by first | (with_reducible exact Op4) | (refine OwnI.updX Op4 KR4 (by decide) ?_; (exact updT); done) | (refine OwnI.updX Op4 KD4 (by decide) ?_; (exact updT); done) | (refine OwnI.updX2 Op4 KR4 KD4 (by decide) (by decide) ?_; (exact upd2T); done) | (exact ownT)) X5 (by omega)
  have Oj5 : OwnI w.heap.size 146 5 w5 (.slice a3 n3 k3) (flJob s.Jobs) := OwnI.drawn (by first | (with_reducible exact Oj4) | (refine OwnI.updX Oj4 KR4 (by decide) ?_; (exact updT); done) | (refine OwnI.updX Oj4 KD4 (by decide) ?_; (exact updT); done) | (refine OwnI.updX2 Oj4 KR4 KD4 (by decide) (by decide) ?_; (exact upd2T); done) | (exact ownT)) X5 (by omega)
  clear X5
  clear CR4 FR4 LR4 CD4 FD4 LD4
  have CR5 := KR5.cell; have FR5 := KR5.frozen; have LR5 := KR5.lt
  have CD5 := KD5.cell; have FD5 := KD5.frozen; have LD5 := KD5.lt
  have qz := qz (by decide); clear rz
  refine hKz.out _ _ (by (try dsimp only); exact ⟨(by exact updT), (by exact curT), (Blk.cast (by exact blkT) setsT)⟩) (fun hHeld => ?_)
  clear hKz Kz
  (try simp only [redA, Act.put])
  refine wpAnyH_take (i := 2) (v := ?_) rfl (by kernel_rfl) (by kernel_rfl) (by kernel_rfl) (fun _ _ _ h => h) (Or.inl ⟨by rfl, ?_⟩) (by assumption) ?_
  rotate_left
  focus (intro w hSw; (try dsimp only at hSw); go_simp <;> with_reducible rfl)
  (try simp only [redA, Act.put])
  refine wpAnyH_take (i := 4) (v := ?_) rfl (by kernel_rfl) (by kernel_rfl) (by kernel_rfl) (fun _ _ _ h => h) (Or.inl ⟨by rfl, ?_⟩) (by assumption) ?_
  rotate_left
  focus (intro w hSw; (try dsimp only at hSw); go_simp <;> with_reducible rfl)
  (try simp only [redA, Act.put])
  refine wpAnyH_ready (rs := [5]) (by kernel_rfl) (by simp) ?_
  refine AllReadyH.cons rfl (fun Kz hKz => ?_) AllReadyH.nil
  (try simp only [redA])
  go_simp
  refine hKz.out _ _ (by (try dsimp only); exact ⟨(by exact updT), (by exact curT), (Blk.cast (by exact blkT) setsT)⟩) (fun hHeld => ?_)
  clear hKz Kz
  (try simp only [redA, Act.put])
  refine wpAnyH_done (by kernel_rfl) ?_ _
  go_wp2_with fail
  refine bodyPost_ret (by simp [results, Tryz.results192, go_sem, CR5, FR5, LR5, CD5, FD5, LD5]; try rfl) rfl ?_
  exact ⟨_, rfl, by exact updT, by exact curT, ⟨_, s⟩, ⟨_, _, rfl, OwnI.mono (by first | (with_reducible exact Op5) | (refine OwnI.drawn Op5 ?_ (by omega); (exact updT); done) | (refine OwnI.updX Op5 KR5 (by decide) ?_; (exact updT); done) | (refine OwnI.updX Op5 KD5 (by decide) ?_; (exact updT); done) | (refine OwnI.updX2 Op5 KR5 KD5 (by decide) (by decide) ?_; (exact upd2T); done)) (by omega), OwnI.mono (by first | (with_reducible exact Oj5) | (refine OwnI.drawn Oj5 ?_ (by omega); (exact updT); done) | (refine OwnI.updX Oj5 KR5 (by decide) ?_; (exact updT); done) | (refine OwnI.updX Oj5 KD5 (by decide) ?_; (exact updT); done) | (refine OwnI.updX2 Oj5 KR5 KD5 (by decide) (by decide) ?_; (exact upd2T); done)) (by omega)⟩⟩

end Go.Proofs.YthihnangjghloaaGreat
