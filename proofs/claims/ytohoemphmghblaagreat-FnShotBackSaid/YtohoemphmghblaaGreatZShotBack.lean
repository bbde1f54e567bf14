/- The statement FnShotBack: the walk and the row. -/
import Derived.Test.YtohoemphmghblaaGreatGp
import Derived.Test.YtohoemphmghblaaGreatGm
import Derived.Test.YtohoemphmghblaaGreatGh
import Derived.Test.YtohoemphmghblaaGreatGi
import Derived.Test.YtohoemphmghblaaGreatGb
import Derived.Test.YtohoemphmghblaaGreatGq
import Derived.Test.YtohoemphmghblaaGreatGg
import Derived.Test.YtohoemphmghblaaGreatGv
import Derived.Deep.DeepCutAuto
import Derived.Test.YtohoemphmghblaaGreatGc
-- Draws of snapshots.
set_option linter.unusedSimpArgs false
set_option linter.unusedVariables false
namespace Go.Proofs.YtohoemphmghblaaGreat
open Go.RowKit Go.G8

set_option maxHeartbeats 4000000 in
set_option maxRecDepth 100000 in
theorem l18Draw_c {B : Nat} {w : World} {g : Nat} (h : Cur B w g) : Calls Tryz.prog 192 #[.pointer (some ⟨g, 0, none⟩)] w (Dr B w g fun v w' => ∃ s : DShot, IsShot w.heap.size w' v s) := by
  have hc0 := h; have E0 : Upd w w [g] := Upd.refl _ _
  have hg0 := h.lt
  go_enter Tryz.func192, Tryz.ntmps192
  go_wp2_with fail
  refine (sNewState_c _).mono ?_
  rintro e w1 ⟨rfl, hx1⟩
  have hz1 := hx1.size; (try simp only [World.size_alloc, World.size_setCell, size_setRow, size_drew] at hz1)
  have E1 : Upd w w1 [g] := Upd.ext (by exact updT) hx1
  have hc1 : Cur B w1 g := Cur.ext (by exact curT) hx1
  have KR1 : Blk w1 w.heap.size 92 #[.int .i64 0, .int .i64 0, .int .i64 0, .slice none 0 0, .slice none 0 0, .int .i64 0, .int .i64 0, .int .i64 0] := Blk.ext (Blk.cast (by exact blkT) (by first | rfl | simp)) hx1
  clear hx1
  have CR1 := KR1.cell; have FR1 := KR1.frozen; have LR1 := KR1.lt
  go_wp2_with fail
  refine (l1Below_c (show Cur B _ g from by exact curT) 18).mono ?_
  rintro e w2 ⟨_, rfl, X2, hc2, n, rfl, pn, qn, rn⟩
  have hz2 := X2.size; (try simp only [World.size_alloc, World.size_setCell, size_setRow, size_drew] at hz2)
  have E2 : Upd w w2 [g] := Upd.trans (by exact updT) X2
  have KR2 : Blk w2 w.heap.size 92 #[.int .i64 0, .int .i64 0, .int .i64 0, .slice none 0 0, .slice none 0 0, .int .i64 0, .int .i64 0, .int .i64 0] := Blk.upd1 (Blk.cast (by exact blkT) (by first | rfl | simp)) X2 (by omega)
  clear X2
  clear CR1 FR1 LR1
  have CR2 := KR2.cell; have FR2 := KR2.frozen; have LR2 := KR2.lt
  have qn := qn (by decide); clear rn
  obtain ⟨N0, rfl⟩ := Int.eq_ofNat_of_zero_le pn
  obtain ⟨N, hN⟩ : ∃ N : Nat, 1 + (N0 : Int) = (N : Int) := ⟨1 + N0, by omega⟩
  go_wp2_with fail
  refine (drawEntries_c (show Cur B _ g from by exact curT) (M := w.heap.size) (by omega) (IsState.nil _ _) (by omega) N (by omega)).mono ?_
  rintro e w3 ⟨_, rfl, X3, hc3, u, x, l, s, rfl, Ol, hl, hs, hok⟩
  have hz3 := X3.size; (try simp only [World.size_alloc, World.size_setCell, size_setRow, size_drew] at hz3)
  have E3 : Upd w w3 [g] := Upd.trans (by exact updT) X3
  have KR3 : Blk w3 w.heap.size 92 #[.int .i64 0, .int .i64 0, .int .i64 0, .slice none 0 0, .slice none 0 0, .int .i64 0, .int .i64 0, .int .i64 0] := Blk.upd1 (Blk.cast (by exact blkT) (by first | rfl | simp)) X3 (by omega)
  clear X3
  clear CR2 FR2 LR2
  have CR3 := KR3.cell; have FR3 := KR3.frozen; have LR3 := KR3.lt
  obtain ⟨t2, t3, rfl, h2, h3⟩ := hs
  obtain ⟨a2, n2, k2, rfl⟩ := h2.shape
  obtain ⟨a3, n3, k3, rfl⟩ := h3.shape
  have Op3 := h2; have Oj3 := h3; clear h2 h3
  go_wp2_with fail
  refine (l1Once_c (show Cur B _ g from by exact curT) 3).mono ?_
  rintro e w4 ⟨_, rfl, X4, hc4, b1, rfl⟩
  have hz4 := X4.size; (try simp only [World.size_alloc, World.size_setCell, size_setRow, size_drew] at hz4)
  have E4 : Upd w w4 [g] := Upd.trans (by exact updT) X4
  have KR4 : Blk w4 w.heap.size 92 #[.int .i64 0, .int .i64 0, .int .i64 0, .slice none 0 0, .slice none 0 0, .int .i64 0, .int .i64 0, .int .i64 0] := Blk.upd1 (Blk.cast (by exact blkT) (by first | rfl | simp)) X4 (by omega)
  have KD4 : Blk w4 w3.heap.size 46 #[.int .i64 s.Index, .int .i64 s.Time, .slice a2 n2 k2, .slice a3 n3 k3, .int .i64 s.Lease.Holder, .int .i64 s.Lease.Epoch, .int .i64 s.Lease.Until] := Blk.upd1 (Blk.cast (by exact blkT) (by first | rfl | simp)) X4 (by omega)
  have Op4 : OwnI w.heap.size 129 2 w4 (.slice a2 n2 k2) (flPair s.Pairs) := OwnI.drawn (by first | (with_reducible exact Op3) | (refine OwnI.updX Op3 KR3 (by decide) ?_; (exact updT); done) | (refine OwnI.updX Op3 KD3 (by decide) ?_; (exact updT); done) | (refine OwnI.updX2 Op3 KR3 KD3 (by decide) (by decide) ?_; (exact upd2T); done) | (exact ownT)) X4 (by omega)
  have Oj4 : OwnI w.heap.size 142 5 w4 (.slice a3 n3 k3) (flJob s.Jobs) := OwnI.drawn (by first | (with_reducible exact Oj3) | (refine OwnI.updX Oj3 KR3 (by decide) ?_; (exact updT); done) | (refine OwnI.updX Oj3 KD3 (by decide) ?_; (exact updT); done) | (refine OwnI.updX2 Oj3 KR3 KD3 (by decide) (by decide) ?_; (exact upd2T); done) | (exact ownT)) X4 (by omega)
  clear X4
  clear CR3 FR3 LR3
  have CR4 := KR4.cell; have FR4 := KR4.frozen; have LR4 := KR4.lt
  have CD4 := KD4.cell; have FD4 := KD4.frozen; have LD4 := KD4.lt
  cases b1
  rotate_left
  · skip
    go_wp2_with fail
    refine wp_region_held_drew (S := fun w' => Upd w w' [g] ∧ Cur B w' g) (by kernel_rfl) (by (try dsimp only); exact ⟨(by exact updT), (by exact curT)⟩) (fun hHeld => ?_)
    refine wpAnyH_take (i := 0) (v := ?_) rfl (by kernel_rfl) (by kernel_rfl) (by kernel_rfl) (fun _ _ _ h => h) (Or.inl ⟨by rfl, ?_⟩) (by assumption) ?_
    rotate_left
    focus (intro w hSw; (try dsimp only at hSw); go_simp <;> with_reducible rfl)
    (try simp only [List.getElem_toArray, List.getElem_cons_zero, List.getElem_cons_succ, Act.put, List.setIfInBounds_toArray, List.set_cons_zero, List.set_cons_succ])
    refine wpAnyH_take (i := 2) (v := ?_) rfl (by kernel_rfl) (by kernel_rfl) (by kernel_rfl) (fun _ _ _ h => h) (Or.inl ⟨by rfl, ?_⟩) (by assumption) ?_
    rotate_left
    focus (intro w hSw; (try dsimp only at hSw); go_simp <;> with_reducible rfl)
    (try simp only [List.getElem_toArray, List.getElem_cons_zero, List.getElem_cons_succ, Act.put, List.setIfInBounds_toArray, List.set_cons_zero, List.set_cons_succ])
    refine wpAnyH_ready (rs := [1, 3]) (by kernel_rfl) (by simp) ?_
    refine AllReadyH.cons rfl (fun Kz hKz => ?_) (AllReadyH.cons rfl (fun Kz hKz => ?_) AllReadyH.nil)
    · skip
      (try simp only [List.getElem_toArray, List.getElem_cons_zero, List.getElem_cons_succ])
      go_simp
      refine hKz.out _ _ (by (try dsimp only); exact ⟨(by exact updT), (by exact curT)⟩) (fun hHeld => ?_)
      clear hKz Kz
      (try simp only [List.getElem_toArray, List.getElem_cons_zero, List.getElem_cons_succ, Act.put, List.setIfInBounds_toArray, List.set_cons_zero, List.set_cons_succ])
      refine wpAnyH_ready (rs := [3]) (by kernel_rfl) (by simp) ?_
      refine AllReadyH.cons rfl (fun Kz hKz => ?_) AllReadyH.nil
      (try simp only [List.getElem_toArray, List.getElem_cons_zero, List.getElem_cons_succ])
      go_simp
      go_at_call 79
      refine (l1Below_c (show Cur B _ g from by exact curT) 20).mono ?_
      rintro e w5 ⟨_, rfl, X5, hc5, x0, rfl, px0, qx0, rx0⟩
      have hz5 := X5.size; (try simp only [World.size_alloc, World.size_setCell, size_setRow, size_drew] at hz5)
      have E5 : Upd w w5 [g] := Upd.trans (by exact updT) X5
      have KR5 : Blk w5 w.heap.size 92 #[.int .i64 0, .int .i64 0, .int .i64 0, .slice none 0 0, .slice none 0 0, .int .i64 0, .int .i64 0, .int .i64 0] := Blk.upd1 (Blk.cast (by exact blkT) (by first | rfl | simp)) X5 (by omega)
      have KD5 : Blk w5 w3.heap.size 46 #[.int .i64 s.Index, .int .i64 s.Time, .slice a2 n2 k2, .slice a3 n3 k3, .int .i64 s.Lease.Holder, .int .i64 s.Lease.Epoch, .int .i64 s.Lease.Until] := Blk.upd1 (Blk.cast (by exact blkT) (by first | rfl | simp)) X5 (by omega)
      have Op5 : OwnI w.heap.size 129 2 w5 (.slice a2 n2 k2) (flPair s.Pairs) := OwnI.drawn (by first | (with_reducible exact Op4) | (refine OwnI.updX Op4 KR4 (by decide) ?_; (exact updT); done) | (refine OwnI.updX Op4 KD4 (by decide) ?_; (exact updT); done) | (refine OwnI.updX2 Op4 KR4 KD4 (by decide) (by decide) ?_; (exact upd2T); done) | (exact ownT)) X5 (by omega)
      have Oj5 : OwnI w.heap.size 142 5 w5 (.slice a3 n3 k3) (flJob s.Jobs) := OwnI.drawn (by first | (with_reducible exact Oj4) | (refine OwnI.updX Oj4 KR4 (by decide) ?_; (exact updT); done) | (refine OwnI.updX Oj4 KD4 (by decide) ?_; (exact updT); done) | (refine OwnI.updX2 Oj4 KR4 KD4 (by decide) (by decide) ?_; (exact upd2T); done) | (exact ownT)) X5 (by omega)
      clear X5
      clear CR4 FR4 LR4 CD4 FD4 LD4
      have CR5 := KR5.cell; have FR5 := KR5.frozen; have LR5 := KR5.lt
      have CD5 := KD5.cell; have FD5 := KD5.frozen; have LD5 := KD5.lt
      refine hKz.out _ _ (by (try dsimp only); exact ⟨(by exact updT), (by exact curT)⟩) (fun hHeld => ?_)
      clear hKz Kz
      (try simp only [List.getElem_toArray, List.getElem_cons_zero, List.getElem_cons_succ, Act.put, List.setIfInBounds_toArray, List.set_cons_zero, List.set_cons_succ])
      refine wpAnyH_ready (rs := [4]) (by kernel_rfl) (by simp) ?_
      refine AllReadyH.cons rfl (fun Kz hKz => ?_) AllReadyH.nil
      (try simp only [List.getElem_toArray, List.getElem_cons_zero, List.getElem_cons_succ])
      have qx0 := qx0 (by decide); clear rx0
      obtain ⟨N2, rfl⟩ := Int.eq_ofNat_of_zero_le px0
      go_simp
      go_at_call 165
      refine (drawEntries_c (show Cur B _ g from by exact curT) (M := w.heap.size) (by omega) (s := s) ⟨_, _, rfl, (by exact ownT), (by exact ownT)⟩ (by first | omega | (simp only [World.size_alloc, World.size_setCell, size_setRow, size_drew]; omega)) N2 (by omega)).mono ?_
      rintro e w6 ⟨_, rfl, X6, hc6, u2, x2, l2, s2, rfl, Ol2, hl2, hs2, hok2⟩
      have hz6 := X6.size; (try simp only [World.size_alloc, World.size_setCell, size_setRow, size_drew] at hz6)
      have E6 : Upd w w6 [g] := Upd.trans (by exact updT) X6
      have KR6 : Blk w6 w.heap.size 92 #[.int .i64 0, .int .i64 0, .int .i64 0, .slice none 0 0, .slice none 0 0, .int .i64 0, .int .i64 0, .int .i64 0] := Blk.upd1 (Blk.cast (by exact blkT) (by first | rfl | simp)) X6 (by omega)
      have KD6 : Blk w6 w3.heap.size 46 #[.int .i64 s.Index, .int .i64 s.Time, .slice a2 n2 k2, .slice a3 n3 k3, .int .i64 s.Lease.Holder, .int .i64 s.Lease.Epoch, .int .i64 s.Lease.Until] := Blk.upd1 (Blk.cast (by exact blkT) (by first | rfl | simp)) X6 (by omega)
      have Op6 : OwnI w.heap.size 129 2 w6 (.slice a2 n2 k2) (flPair s.Pairs) := OwnI.drawn (by first | (with_reducible exact Op5) | (refine OwnI.updX Op5 KR5 (by decide) ?_; (exact updT); done) | (refine OwnI.updX Op5 KD5 (by decide) ?_; (exact updT); done) | (refine OwnI.updX2 Op5 KR5 KD5 (by decide) (by decide) ?_; (exact upd2T); done) | (exact ownT)) X6 (by omega)
      have Oj6 : OwnI w.heap.size 142 5 w6 (.slice a3 n3 k3) (flJob s.Jobs) := OwnI.drawn (by first | (with_reducible exact Oj5) | (refine OwnI.updX Oj5 KR5 (by decide) ?_; (exact updT); done) | (refine OwnI.updX Oj5 KD5 (by decide) ?_; (exact updT); done) | (refine OwnI.updX2 Oj5 KR5 KD5 (by decide) (by decide) ?_; (exact upd2T); done) | (exact ownT)) X6 (by omega)
      clear X6
      clear CR5 FR5 LR5 CD5 FD5 LD5
      have CR6 := KR6.cell; have FR6 := KR6.frozen; have LR6 := KR6.lt
      have CD6 := KD6.cell; have FD6 := KD6.frozen; have LD6 := KD6.lt
      obtain ⟨t4, t5, rfl, h4, h5⟩ := hs2
      obtain ⟨a4, n4, k4, rfl⟩ := h4.shape
      obtain ⟨a5, n5, k5, rfl⟩ := h5.shape
      clear Op6 Oj6
      have Op6 := h4; have Oj6 := h5; clear h4 h5
      refine hKz.out _ _ (by (try dsimp only); exact ⟨(by exact updT), (by exact curT)⟩) (fun hHeld => ?_)
      clear hKz Kz
      (try simp only [List.getElem_toArray, List.getElem_cons_zero, List.getElem_cons_succ, Act.put, List.setIfInBounds_toArray, List.set_cons_zero, List.set_cons_succ])
      refine wpAnyH_take (i := 5) (v := ?_) rfl (by kernel_rfl) (by kernel_rfl) (by kernel_rfl) (fun _ _ _ h => h) (Or.inl ⟨by rfl, ?_⟩) (by assumption) ?_
      rotate_left
      focus (intro w hSw; (try dsimp only at hSw); go_simp <;> with_reducible rfl)
      (try simp only [List.getElem_toArray, List.getElem_cons_zero, List.getElem_cons_succ, Act.put, List.setIfInBounds_toArray, List.set_cons_zero, List.set_cons_succ])
      refine wpAnyH_take (i := 6) (v := ?_) rfl (by kernel_rfl) (by kernel_rfl) (by kernel_rfl) (fun _ _ _ h => h) (Or.inl ⟨by rfl, ?_⟩) (by assumption) ?_
      rotate_left
      focus (intro w hSw; (try dsimp only at hSw); go_simp <;> with_reducible rfl)
      (try simp only [List.getElem_toArray, List.getElem_cons_zero, List.getElem_cons_succ, Act.put, List.setIfInBounds_toArray, List.set_cons_zero, List.set_cons_succ])
      refine wpAnyH_take (i := 7) (v := ?_) rfl (by kernel_rfl) (by kernel_rfl) (by kernel_rfl) (fun _ _ _ h => h) (Or.inl ⟨by rfl, ?_⟩) (by assumption) ?_
      rotate_left
      focus (intro w hSw; (try dsimp only at hSw); go_simp <;> with_reducible rfl)
      (try simp only [List.getElem_toArray, List.getElem_cons_zero, List.getElem_cons_succ, Act.put, List.setIfInBounds_toArray, List.set_cons_zero, List.set_cons_succ])
      refine wpAnyH_ready (rs := [8]) (by kernel_rfl) (by simp) ?_
      refine AllReadyH.cons rfl (fun Kz hKz => ?_) AllReadyH.nil
      (try simp only [List.getElem_toArray, List.getElem_cons_zero, List.getElem_cons_succ])
      go_simp
      refine hKz.out _ _ (by (try dsimp only); exact ⟨(by exact updT), (by exact curT)⟩) (fun hHeld => ?_)
      clear hKz Kz
      (try simp only [List.getElem_toArray, List.getElem_cons_zero, List.getElem_cons_succ, Act.put, List.setIfInBounds_toArray, List.set_cons_zero, List.set_cons_succ])
      refine wpAnyH_done (by kernel_rfl) ?_ _
      go_wp2_with fail
      refine wp_region_held_drew (S := fun w' => Upd w w' [g] ∧ Cur B w' g ∧ Blk w' w3.heap.size 46 #[.int .i64 s2.Index, .int .i64 s2.Time, .slice a4 n4 k4, .slice a5 n5 k5, .int .i64 s2.Lease.Holder, .int .i64 s2.Lease.Epoch, .int .i64 s2.Lease.Until]) (by kernel_rfl) (by (try dsimp only); exact ⟨(by exact updT), (by exact curT), (Blk.cast (by exact blkT) setsT)⟩) (fun hHeld => ?_)
      refine wpAnyH_take (i := 0) (v := ?_) rfl (by kernel_rfl) (by kernel_rfl) (by kernel_rfl) (fun _ _ _ h => h) (Or.inl ⟨by rfl, ?_⟩) (by assumption) ?_
      rotate_left
      focus (intro w hSw; (try dsimp only at hSw); go_simp <;> with_reducible rfl)
      (try simp only [List.getElem_toArray, List.getElem_cons_zero, List.getElem_cons_succ, Act.put, List.setIfInBounds_toArray, List.set_cons_zero, List.set_cons_succ])
      refine wpAnyH_take (i := 3) (v := ?_) rfl (by kernel_rfl) (by kernel_rfl) (by kernel_rfl) (fun _ _ _ h => h) (Or.inl ⟨by rfl, ?_⟩) (by assumption) ?_
      rotate_left
      focus (intro w hSw; (try dsimp only at hSw); have hq := hSw.2.2.cell; go_simp <;> with_reducible rfl)
      (try simp only [List.getElem_toArray, List.getElem_cons_zero, List.getElem_cons_succ, Act.put, List.setIfInBounds_toArray, List.set_cons_zero, List.set_cons_succ])
      refine wpAnyH_ready (rs := [1]) (by kernel_rfl) (by simp) ?_
      refine AllReadyH.cons rfl (fun Kz hKz => ?_) AllReadyH.nil
      (try simp only [List.getElem_toArray, List.getElem_cons_zero, List.getElem_cons_succ])
      go_simp
      go_at_call 79
      refine (l1Below_c (show Cur B _ g from by exact curT) 6).mono ?_
      rintro e w7 ⟨_, rfl, X7, hc7, z, rfl, pz, qz, rz⟩
      have hz7 := X7.size; (try simp only [World.size_alloc, World.size_setCell, size_setRow, size_drew] at hz7)
      have E7 : Upd w w7 [g] := Upd.trans (by exact updT) X7
      have KR7 : Blk w7 w.heap.size 92 #[.int .i64 0, .int .i64 0, .int .i64 0, .slice none 0 0, .slice none 0 0, .int .i64 0, .int .i64 0, .int .i64 0] := Blk.upd1 (Blk.cast (by exact blkT) (by first | rfl | simp)) X7 (by omega)
      have KD7 : Blk w7 w3.heap.size 46 #[.int .i64 s2.Index, .int .i64 s2.Time, .slice a4 n4 k4, .slice a5 n5 k5, .int .i64 s2.Lease.Holder, .int .i64 s2.Lease.Epoch, .int .i64 s2.Lease.Until] := Blk.upd1 (Blk.cast (by exact blkT) (by first | rfl | simp)) X7 (by omega)
      have Op7 : OwnI w.heap.size 129 2 w7 (.slice a4 n4 k4) (flPair s2.Pairs) := OwnI.drawn (by first | (with_reducible exact Op6) | (refine OwnI.updX Op6 KR6 (by decide) ?_; (exact updT); done) | (refine OwnI.updX Op6 KD6 (by decide) ?_; (exact updT); done) | (refine OwnI.updX2 Op6 KR6 KD6 (by decide) (by decide) ?_; (exact upd2T); done) | (exact ownT)) X7 (by omega)
      have Oj7 : OwnI w.heap.size 142 5 w7 (.slice a5 n5 k5) (flJob s2.Jobs) := OwnI.drawn (by first | (with_reducible exact Oj6) | (refine OwnI.updX Oj6 KR6 (by decide) ?_; (exact updT); done) | (refine OwnI.updX Oj6 KD6 (by decide) ?_; (exact updT); done) | (refine OwnI.updX2 Oj6 KR6 KD6 (by decide) (by decide) ?_; (exact upd2T); done) | (exact ownT)) X7 (by omega)
      clear X7
      clear CR6 FR6 LR6 CD6 FD6 LD6
      have CR7 := KR7.cell; have FR7 := KR7.frozen; have LR7 := KR7.lt
      have CD7 := KD7.cell; have FD7 := KD7.frozen; have LD7 := KD7.lt
      have qz := qz (by decide); clear rz
      refine hKz.out _ _ (by (try dsimp only); exact ⟨(by exact updT), (by exact curT), (Blk.cast (by exact blkT) setsT)⟩) (fun hHeld => ?_)
      clear hKz Kz
      (try simp only [List.getElem_toArray, List.getElem_cons_zero, List.getElem_cons_succ, Act.put, List.setIfInBounds_toArray, List.set_cons_zero, List.set_cons_succ])
      refine wpAnyH_take (i := 2) (v := ?_) rfl (by kernel_rfl) (by kernel_rfl) (by kernel_rfl) (fun _ _ _ h => h) (Or.inl ⟨by rfl, ?_⟩) (by assumption) ?_
      rotate_left
      focus (intro w hSw; (try dsimp only at hSw); go_simp <;> with_reducible rfl)
      (try simp only [List.getElem_toArray, List.getElem_cons_zero, List.getElem_cons_succ, Act.put, List.setIfInBounds_toArray, List.set_cons_zero, List.set_cons_succ])
      refine wpAnyH_take (i := 4) (v := ?_) rfl (by kernel_rfl) (by kernel_rfl) (by kernel_rfl) (fun _ _ _ h => h) (Or.inl ⟨by rfl, ?_⟩) (by assumption) ?_
      rotate_left
      focus (intro w hSw; (try dsimp only at hSw); go_simp <;> with_reducible rfl)
      (try simp only [List.getElem_toArray, List.getElem_cons_zero, List.getElem_cons_succ, Act.put, List.setIfInBounds_toArray, List.set_cons_zero, List.set_cons_succ])
      refine wpAnyH_ready (rs := [5]) (by kernel_rfl) (by simp) ?_
      refine AllReadyH.cons rfl (fun Kz hKz => ?_) AllReadyH.nil
      (try simp only [List.getElem_toArray, List.getElem_cons_zero, List.getElem_cons_succ])
      go_simp
      refine hKz.out _ _ (by (try dsimp only); exact ⟨(by exact updT), (by exact curT), (Blk.cast (by exact blkT) setsT)⟩) (fun hHeld => ?_)
      clear hKz Kz
      (try simp only [List.getElem_toArray, List.getElem_cons_zero, List.getElem_cons_succ, Act.put, List.setIfInBounds_toArray, List.set_cons_zero, List.set_cons_succ])
      refine wpAnyH_done (by kernel_rfl) ?_ _
      go_wp2_with fail
      refine bodyPost_ret (by simp [results, Tryz.results192, go_sem, CR7, FR7, LR7, CD7, FD7, LD7]; try rfl) rfl ?_
      exact ⟨_, rfl, by exact updT, by exact curT, ⟨_, s2⟩, ⟨_, _, rfl, OwnI.mono (by first | (with_reducible exact Op7) | (refine OwnI.drawn Op7 ?_ (by omega); (exact updT); done) | (refine OwnI.updX Op7 KR7 (by decide) ?_; (exact updT); done) | (refine OwnI.updX Op7 KD7 (by decide) ?_; (exact updT); done) | (refine OwnI.updX2 Op7 KR7 KD7 (by decide) (by decide) ?_; (exact upd2T); done)) (by omega), OwnI.mono (by first | (with_reducible exact Oj7) | (refine OwnI.drawn Oj7 ?_ (by omega); (exact updT); done) | (refine OwnI.updX Oj7 KR7 (by decide) ?_; (exact updT); done) | (refine OwnI.updX Oj7 KD7 (by decide) ?_; (exact updT); done) | (refine OwnI.updX2 Oj7 KR7 KD7 (by decide) (by decide) ?_; (exact upd2T); done)) (by omega)⟩⟩
    · skip
      (try simp only [List.getElem_toArray, List.getElem_cons_zero, List.getElem_cons_succ])
      go_simp
      go_at_call 79
      refine (l1Below_c (show Cur B _ g from by exact curT) 20).mono ?_
      rintro e w5 ⟨_, rfl, X5, hc5, x0, rfl, px0, qx0, rx0⟩
      have hz5 := X5.size; (try simp only [World.size_alloc, World.size_setCell, size_setRow, size_drew] at hz5)
      have E5 : Upd w w5 [g] := Upd.trans (by exact updT) X5
      have KR5 : Blk w5 w.heap.size 92 #[.int .i64 0, .int .i64 0, .int .i64 0, .slice none 0 0, .slice none 0 0, .int .i64 0, .int .i64 0, .int .i64 0] := Blk.upd1 (Blk.cast (by exact blkT) (by first | rfl | simp)) X5 (by omega)
      have KD5 : Blk w5 w3.heap.size 46 #[.int .i64 s.Index, .int .i64 s.Time, .slice a2 n2 k2, .slice a3 n3 k3, .int .i64 s.Lease.Holder, .int .i64 s.Lease.Epoch, .int .i64 s.Lease.Until] := Blk.upd1 (Blk.cast (by exact blkT) (by first | rfl | simp)) X5 (by omega)
      have Op5 : OwnI w.heap.size 129 2 w5 (.slice a2 n2 k2) (flPair s.Pairs) := OwnI.drawn (by first | (with_reducible exact Op4) | (refine OwnI.updX Op4 KR4 (by decide) ?_; (exact updT); done) | (refine OwnI.updX Op4 KD4 (by decide) ?_; (exact updT); done) | (refine OwnI.updX2 Op4 KR4 KD4 (by decide) (by decide) ?_; (exact upd2T); done) | (exact ownT)) X5 (by omega)
      have Oj5 : OwnI w.heap.size 142 5 w5 (.slice a3 n3 k3) (flJob s.Jobs) := OwnI.drawn (by first | (with_reducible exact Oj4) | (refine OwnI.updX Oj4 KR4 (by decide) ?_; (exact updT); done) | (refine OwnI.updX Oj4 KD4 (by decide) ?_; (exact updT); done) | (refine OwnI.updX2 Oj4 KR4 KD4 (by decide) (by decide) ?_; (exact upd2T); done) | (exact ownT)) X5 (by omega)
      clear X5
      clear CR4 FR4 LR4 CD4 FD4 LD4
      have CR5 := KR5.cell; have FR5 := KR5.frozen; have LR5 := KR5.lt
      have CD5 := KD5.cell; have FD5 := KD5.frozen; have LD5 := KD5.lt
      refine hKz.out _ _ (by (try dsimp only); exact ⟨(by exact updT), (by exact curT)⟩) (fun hHeld => ?_)
      clear hKz Kz
      (try simp only [List.getElem_toArray, List.getElem_cons_zero, List.getElem_cons_succ, Act.put, List.setIfInBounds_toArray, List.set_cons_zero, List.set_cons_succ])
      refine wpAnyH_ready (rs := [1]) (by kernel_rfl) (by simp) ?_
      refine AllReadyH.cons rfl (fun Kz hKz => ?_) AllReadyH.nil
      (try simp only [List.getElem_toArray, List.getElem_cons_zero, List.getElem_cons_succ])
      go_simp
      refine hKz.out _ _ (by (try dsimp only); exact ⟨(by exact updT), (by exact curT)⟩) (fun hHeld => ?_)
      clear hKz Kz
      (try simp only [List.getElem_toArray, List.getElem_cons_zero, List.getElem_cons_succ, Act.put, List.setIfInBounds_toArray, List.set_cons_zero, List.set_cons_succ])
      refine wpAnyH_ready (rs := [4]) (by kernel_rfl) (by simp) ?_
      refine AllReadyH.cons rfl (fun Kz hKz => ?_) AllReadyH.nil
      (try simp only [List.getElem_toArray, List.getElem_cons_zero, List.getElem_cons_succ])
      have qx0 := qx0 (by decide); clear rx0
      obtain ⟨N2, rfl⟩ := Int.eq_ofNat_of_zero_le px0
      go_simp
      go_at_call 165
      refine (drawEntries_c (show Cur B _ g from by exact curT) (M := w.heap.size) (by omega) (s := s) ⟨_, _, rfl, (by exact ownT), (by exact ownT)⟩ (by first | omega | (simp only [World.size_alloc, World.size_setCell, size_setRow, size_drew]; omega)) N2 (by omega)).mono ?_
      rintro e w6 ⟨_, rfl, X6, hc6, u2, x2, l2, s2, rfl, Ol2, hl2, hs2, hok2⟩
      have hz6 := X6.size; (try simp only [World.size_alloc, World.size_setCell, size_setRow, size_drew] at hz6)
      have E6 : Upd w w6 [g] := Upd.trans (by exact updT) X6
      have KR6 : Blk w6 w.heap.size 92 #[.int .i64 0, .int .i64 0, .int .i64 0, .slice none 0 0, .slice none 0 0, .int .i64 0, .int .i64 0, .int .i64 0] := Blk.upd1 (Blk.cast (by exact blkT) (by first | rfl | simp)) X6 (by omega)
      have KD6 : Blk w6 w3.heap.size 46 #[.int .i64 s.Index, .int .i64 s.Time, .slice a2 n2 k2, .slice a3 n3 k3, .int .i64 s.Lease.Holder, .int .i64 s.Lease.Epoch, .int .i64 s.Lease.Until] := Blk.upd1 (Blk.cast (by exact blkT) (by first | rfl | simp)) X6 (by omega)
      have Op6 : OwnI w.heap.size 129 2 w6 (.slice a2 n2 k2) (flPair s.Pairs) := OwnI.drawn (by first | (with_reducible exact Op5) | (refine OwnI.updX Op5 KR5 (by decide) ?_; (exact updT); done) | (refine OwnI.updX Op5 KD5 (by decide) ?_; (exact updT); done) | (refine OwnI.updX2 Op5 KR5 KD5 (by decide) (by decide) ?_; (exact upd2T); done) | (exact ownT)) X6 (by omega)
      have Oj6 : OwnI w.heap.size 142 5 w6 (.slice a3 n3 k3) (flJob s.Jobs) := OwnI.drawn (by first | (with_reducible exact Oj5) | (refine OwnI.updX Oj5 KR5 (by decide) ?_; (exact updT); done) | (refine OwnI.updX Oj5 KD5 (by decide) ?_; (exact updT); done) | (refine OwnI.updX2 Oj5 KR5 KD5 (by decide) (by decide) ?_; (exact upd2T); done) | (exact ownT)) X6 (by omega)
      clear X6
      clear CR5 FR5 LR5 CD5 FD5 LD5
      have CR6 := KR6.cell; have FR6 := KR6.frozen; have LR6 := KR6.lt
      have CD6 := KD6.cell; have FD6 := KD6.frozen; have LD6 := KD6.lt
      obtain ⟨t4, t5, rfl, h4, h5⟩ := hs2
      obtain ⟨a4, n4, k4, rfl⟩ := h4.shape
      obtain ⟨a5, n5, k5, rfl⟩ := h5.shape
      clear Op6 Oj6
      have Op6 := h4; have Oj6 := h5; clear h4 h5
      refine hKz.out _ _ (by (try dsimp only); exact ⟨(by exact updT), (by exact curT)⟩) (fun hHeld => ?_)
      clear hKz Kz
      (try simp only [List.getElem_toArray, List.getElem_cons_zero, List.getElem_cons_succ, Act.put, List.setIfInBounds_toArray, List.set_cons_zero, List.set_cons_succ])
      refine wpAnyH_take (i := 5) (v := ?_) rfl (by kernel_rfl) (by kernel_rfl) (by kernel_rfl) (fun _ _ _ h => h) (Or.inl ⟨by rfl, ?_⟩) (by assumption) ?_
      rotate_left
      focus (intro w hSw; (try dsimp only at hSw); go_simp <;> with_reducible rfl)
      (try simp only [List.getElem_toArray, List.getElem_cons_zero, List.getElem_cons_succ, Act.put, List.setIfInBounds_toArray, List.set_cons_zero, List.set_cons_succ])
      refine wpAnyH_take (i := 6) (v := ?_) rfl (by kernel_rfl) (by kernel_rfl) (by kernel_rfl) (fun _ _ _ h => h) (Or.inl ⟨by rfl, ?_⟩) (by assumption) ?_
      rotate_left
      focus (intro w hSw; (try dsimp only at hSw); go_simp <;> with_reducible rfl)
      (try simp only [List.getElem_toArray, List.getElem_cons_zero, List.getElem_cons_succ, Act.put, List.setIfInBounds_toArray, List.set_cons_zero, List.set_cons_succ])
      refine wpAnyH_take (i := 7) (v := ?_) rfl (by kernel_rfl) (by kernel_rfl) (by kernel_rfl) (fun _ _ _ h => h) (Or.inl ⟨by rfl, ?_⟩) (by assumption) ?_
      rotate_left
      focus (intro w hSw; (try dsimp only at hSw); go_simp <;> with_reducible rfl)
      (try simp only [List.getElem_toArray, List.getElem_cons_zero, List.getElem_cons_succ, Act.put, List.setIfInBounds_toArray, List.set_cons_zero, List.set_cons_succ])
      refine wpAnyH_ready (rs := [8]) (by kernel_rfl) (by simp) ?_
      refine AllReadyH.cons rfl (fun Kz hKz => ?_) AllReadyH.nil
      (try simp only [List.getElem_toArray, List.getElem_cons_zero, List.getElem_cons_succ])
      go_simp
      refine hKz.out _ _ (by (try dsimp only); exact ⟨(by exact updT), (by exact curT)⟩) (fun hHeld => ?_)
      clear hKz Kz
      (try simp only [List.getElem_toArray, List.getElem_cons_zero, List.getElem_cons_succ, Act.put, List.setIfInBounds_toArray, List.set_cons_zero, List.set_cons_succ])
      refine wpAnyH_done (by kernel_rfl) ?_ _
      go_wp2_with fail
      refine wp_region_held_drew (S := fun w' => Upd w w' [g] ∧ Cur B w' g ∧ Blk w' w3.heap.size 46 #[.int .i64 s2.Index, .int .i64 s2.Time, .slice a4 n4 k4, .slice a5 n5 k5, .int .i64 s2.Lease.Holder, .int .i64 s2.Lease.Epoch, .int .i64 s2.Lease.Until]) (by kernel_rfl) (by (try dsimp only); exact ⟨(by exact updT), (by exact curT), (Blk.cast (by exact blkT) setsT)⟩) (fun hHeld => ?_)
      refine wpAnyH_take (i := 0) (v := ?_) rfl (by kernel_rfl) (by kernel_rfl) (by kernel_rfl) (fun _ _ _ h => h) (Or.inl ⟨by rfl, ?_⟩) (by assumption) ?_
      rotate_left
      focus (intro w hSw; (try dsimp only at hSw); go_simp <;> with_reducible rfl)
      (try simp only [List.getElem_toArray, List.getElem_cons_zero, List.getElem_cons_succ, Act.put, List.setIfInBounds_toArray, List.set_cons_zero, List.set_cons_succ])
      refine wpAnyH_take (i := 3) (v := ?_) rfl (by kernel_rfl) (by kernel_rfl) (by kernel_rfl) (fun _ _ _ h => h) (Or.inl ⟨by rfl, ?_⟩) (by assumption) ?_
      rotate_left
      focus (intro w hSw; (try dsimp only at hSw); have hq := hSw.2.2.cell; go_simp <;> with_reducible rfl)
      (try simp only [List.getElem_toArray, List.getElem_cons_zero, List.getElem_cons_succ, Act.put, List.setIfInBounds_toArray, List.set_cons_zero, List.set_cons_succ])
      refine wpAnyH_ready (rs := [1]) (by kernel_rfl) (by simp) ?_
      refine AllReadyH.cons rfl (fun Kz hKz => ?_) AllReadyH.nil
      (try simp only [List.getElem_toArray, List.getElem_cons_zero, List.getElem_cons_succ])
      go_simp
      go_at_call 79
      refine (l1Below_c (show Cur B _ g from by exact curT) 6).mono ?_
      rintro e w7 ⟨_, rfl, X7, hc7, z, rfl, pz, qz, rz⟩
      have hz7 := X7.size; (try simp only [World.size_alloc, World.size_setCell, size_setRow, size_drew] at hz7)
      have E7 : Upd w w7 [g] := Upd.trans (by exact updT) X7
      have KR7 : Blk w7 w.heap.size 92 #[.int .i64 0, .int .i64 0, .int .i64 0, .slice none 0 0, .slice none 0 0, .int .i64 0, .int .i64 0, .int .i64 0] := Blk.upd1 (Blk.cast (by exact blkT) (by first | rfl | simp)) X7 (by omega)
      have KD7 : Blk w7 w3.heap.size 46 #[.int .i64 s2.Index, .int .i64 s2.Time, .slice a4 n4 k4, .slice a5 n5 k5, .int .i64 s2.Lease.Holder, .int .i64 s2.Lease.Epoch, .int .i64 s2.Lease.Until] := Blk.upd1 (Blk.cast (by exact blkT) (by first | rfl | simp)) X7 (by omega)
      have Op7 : OwnI w.heap.size 129 2 w7 (.slice a4 n4 k4) (flPair s2.Pairs) := OwnI.drawn (by first | (with_reducible exact Op6) | (refine OwnI.updX Op6 KR6 (by decide) ?_; (exact updT); done) | (refine OwnI.updX Op6 KD6 (by decide) ?_; (exact updT); done) | (refine OwnI.updX2 Op6 KR6 KD6 (by decide) (by decide) ?_; (exact upd2T); done) | (exact ownT)) X7 (by omega)
      have Oj7 : OwnI w.heap.size 142 5 w7 (.slice a5 n5 k5) (flJob s2.Jobs) := OwnI.drawn (by first | (with_reducible exact Oj6) | (refine OwnI.updX Oj6 KR6 (by decide) ?_; (exact updT); done) | (refine OwnI.updX Oj6 KD6 (by decide) ?_; (exact updT); done) | (refine OwnI.updX2 Oj6 KR6 KD6 (by decide) (by decide) ?_; (exact upd2T); done) | (exact ownT)) X7 (by omega)
      clear X7
      clear CR6 FR6 LR6 CD6 FD6 LD6
      have CR7 := KR7.cell; have FR7 := KR7.frozen; have LR7 := KR7.lt
      have CD7 := KD7.cell; have FD7 := KD7.frozen; have LD7 := KD7.lt
      have qz := qz (by decide); clear rz
      refine hKz.out _ _ (by (try dsimp only); exact ⟨(by exact updT), (by exact curT), (Blk.cast (by exact blkT) setsT)⟩) (fun hHeld => ?_)
      clear hKz Kz
      (try simp only [List.getElem_toArray, List.getElem_cons_zero, List.getElem_cons_succ, Act.put, List.setIfInBounds_toArray, List.set_cons_zero, List.set_cons_succ])
      refine wpAnyH_take (i := 2) (v := ?_) rfl (by kernel_rfl) (by kernel_rfl) (by kernel_rfl) (fun _ _ _ h => h) (Or.inl ⟨by rfl, ?_⟩) (by assumption) ?_
      rotate_left
      focus (intro w hSw; (try dsimp only at hSw); go_simp <;> with_reducible rfl)
      (try simp only [List.getElem_toArray, List.getElem_cons_zero, List.getElem_cons_succ, Act.put, List.setIfInBounds_toArray, List.set_cons_zero, List.set_cons_succ])
      refine wpAnyH_take (i := 4) (v := ?_) rfl (by kernel_rfl) (by kernel_rfl) (by kernel_rfl) (fun _ _ _ h => h) (Or.inl ⟨by rfl, ?_⟩) (by assumption) ?_
      rotate_left
      focus (intro w hSw; (try dsimp only at hSw); go_simp <;> with_reducible rfl)
      (try simp only [List.getElem_toArray, List.getElem_cons_zero, List.getElem_cons_succ, Act.put, List.setIfInBounds_toArray, List.set_cons_zero, List.set_cons_succ])
      refine wpAnyH_ready (rs := [5]) (by kernel_rfl) (by simp) ?_
      refine AllReadyH.cons rfl (fun Kz hKz => ?_) AllReadyH.nil
      (try simp only [List.getElem_toArray, List.getElem_cons_zero, List.getElem_cons_succ])
      go_simp
      refine hKz.out _ _ (by (try dsimp only); exact ⟨(by exact updT), (by exact curT), (Blk.cast (by exact blkT) setsT)⟩) (fun hHeld => ?_)
      clear hKz Kz
      (try simp only [List.getElem_toArray, List.getElem_cons_zero, List.getElem_cons_succ, Act.put, List.setIfInBounds_toArray, List.set_cons_zero, List.set_cons_succ])
      refine wpAnyH_done (by kernel_rfl) ?_ _
      go_wp2_with fail
      refine bodyPost_ret (by simp [results, Tryz.results192, go_sem, CR7, FR7, LR7, CD7, FD7, LD7]; try rfl) rfl ?_
      exact ⟨_, rfl, by exact updT, by exact curT, ⟨_, s2⟩, ⟨_, _, rfl, OwnI.mono (by first | (with_reducible exact Op7) | (refine OwnI.drawn Op7 ?_ (by omega); (exact updT); done) | (refine OwnI.updX Op7 KR7 (by decide) ?_; (exact updT); done) | (refine OwnI.updX Op7 KD7 (by decide) ?_; (exact updT); done) | (refine OwnI.updX2 Op7 KR7 KD7 (by decide) (by decide) ?_; (exact upd2T); done)) (by omega), OwnI.mono (by first | (with_reducible exact Oj7) | (refine OwnI.drawn Oj7 ?_ (by omega); (exact updT); done) | (refine OwnI.updX Oj7 KR7 (by decide) ?_; (exact updT); done) | (refine OwnI.updX Oj7 KD7 (by decide) ?_; (exact updT); done) | (refine OwnI.updX2 Oj7 KR7 KD7 (by decide) (by decide) ?_; (exact upd2T); done)) (by omega)⟩⟩
  · skip
    go_wp2_with fail
    refine wp_region_held_drew (S := fun w' => Upd w w' [g] ∧ Cur B w' g ∧ Blk w' w3.heap.size 46 #[.int .i64 s.Index, .int .i64 s.Time, .slice a2 n2 k2, .slice a3 n3 k3, .int .i64 s.Lease.Holder, .int .i64 s.Lease.Epoch, .int .i64 s.Lease.Until]) (by kernel_rfl) (by (try dsimp only); exact ⟨(by exact updT), (by exact curT), (Blk.cast (by exact blkT) setsT)⟩) (fun hHeld => ?_)
    refine wpAnyH_take (i := 0) (v := ?_) rfl (by kernel_rfl) (by kernel_rfl) (by kernel_rfl) (fun _ _ _ h => h) (Or.inl ⟨by rfl, ?_⟩) (by assumption) ?_
    rotate_left
    focus (intro w hSw; (try dsimp only at hSw); go_simp <;> with_reducible rfl)
    (try simp only [List.getElem_toArray, List.getElem_cons_zero, List.getElem_cons_succ, Act.put, List.setIfInBounds_toArray, List.set_cons_zero, List.set_cons_succ])
    refine wpAnyH_take (i := 3) (v := ?_) rfl (by kernel_rfl) (by kernel_rfl) (by kernel_rfl) (fun _ _ _ h => h) (Or.inl ⟨by rfl, ?_⟩) (by assumption) ?_
    rotate_left
    focus (intro w hSw; (try dsimp only at hSw); have hq := hSw.2.2.cell; go_simp <;> with_reducible rfl)
    (try simp only [List.getElem_toArray, List.getElem_cons_zero, List.getElem_cons_succ, Act.put, List.setIfInBounds_toArray, List.set_cons_zero, List.set_cons_succ])
    refine wpAnyH_ready (rs := [1]) (by kernel_rfl) (by simp) ?_
    refine AllReadyH.cons rfl (fun Kz hKz => ?_) AllReadyH.nil
    (try simp only [List.getElem_toArray, List.getElem_cons_zero, List.getElem_cons_succ])
    go_simp
    go_at_call 79
    refine (l1Below_c (show Cur B _ g from by exact curT) 6).mono ?_
    rintro e w5 ⟨_, rfl, X5, hc5, z, rfl, pz, qz, rz⟩
    have hz5 := X5.size; (try simp only [World.size_alloc, World.size_setCell, size_setRow, size_drew] at hz5)
    have E5 : Upd w w5 [g] := Upd.trans (by exact updT) X5
    have KR5 : Blk w5 w.heap.size 92 #[.int .i64 0, .int .i64 0, .int .i64 0, .slice none 0 0, .slice none 0 0, .int .i64 0, .int .i64 0, .int .i64 0] := Blk.upd1 (Blk.cast (by exact blkT) (by first | rfl | simp)) X5 (by omega)
    have KD5 : Blk w5 w3.heap.size 46 #[.int .i64 s.Index, .int .i64 s.Time, .slice a2 n2 k2, .slice a3 n3 k3, .int .i64 s.Lease.Holder, .int .i64 s.Lease.Epoch, .int .i64 s.Lease.Until] := Blk.upd1 (Blk.cast (by exact blkT) (by first | rfl | simp)) X5 (by omega)
    have Op5 : OwnI w.heap.size 129 2 w5 (.slice a2 n2 k2) (flPair s.Pairs) := OwnI.drawn (by first | (with_reducible exact Op4) | (refine OwnI.updX Op4 KR4 (by decide) ?_; (exact updT); done) | (refine OwnI.updX Op4 KD4 (by decide) ?_; (exact updT); done) | (refine OwnI.updX2 Op4 KR4 KD4 (by decide) (by decide) ?_; (exact upd2T); done) | (exact ownT)) X5 (by omega)
    have Oj5 : OwnI w.heap.size 142 5 w5 (.slice a3 n3 k3) (flJob s.Jobs) := OwnI.drawn (by first | (with_reducible exact Oj4) | (refine OwnI.updX Oj4 KR4 (by decide) ?_; (exact updT); done) | (refine OwnI.updX Oj4 KD4 (by decide) ?_; (exact updT); done) | (refine OwnI.updX2 Oj4 KR4 KD4 (by decide) (by decide) ?_; (exact upd2T); done) | (exact ownT)) X5 (by omega)
    clear X5
    clear CR4 FR4 LR4 CD4 FD4 LD4
    have CR5 := KR5.cell; have FR5 := KR5.frozen; have LR5 := KR5.lt
    have CD5 := KD5.cell; have FD5 := KD5.frozen; have LD5 := KD5.lt
    have qz := qz (by decide); clear rz
    refine hKz.out _ _ (by (try dsimp only); exact ⟨(by exact updT), (by exact curT), (Blk.cast (by exact blkT) setsT)⟩) (fun hHeld => ?_)
    clear hKz Kz
    (try simp only [List.getElem_toArray, List.getElem_cons_zero, List.getElem_cons_succ, Act.put, List.setIfInBounds_toArray, List.set_cons_zero, List.set_cons_succ])
    refine wpAnyH_take (i := 2) (v := ?_) rfl (by kernel_rfl) (by kernel_rfl) (by kernel_rfl) (fun _ _ _ h => h) (Or.inl ⟨by rfl, ?_⟩) (by assumption) ?_
    rotate_left
    focus (intro w hSw; (try dsimp only at hSw); go_simp <;> with_reducible rfl)
    (try simp only [List.getElem_toArray, List.getElem_cons_zero, List.getElem_cons_succ, Act.put, List.setIfInBounds_toArray, List.set_cons_zero, List.set_cons_succ])
    refine wpAnyH_take (i := 4) (v := ?_) rfl (by kernel_rfl) (by kernel_rfl) (by kernel_rfl) (fun _ _ _ h => h) (Or.inl ⟨by rfl, ?_⟩) (by assumption) ?_
    rotate_left
    focus (intro w hSw; (try dsimp only at hSw); go_simp <;> with_reducible rfl)
    (try simp only [List.getElem_toArray, List.getElem_cons_zero, List.getElem_cons_succ, Act.put, List.setIfInBounds_toArray, List.set_cons_zero, List.set_cons_succ])
    refine wpAnyH_ready (rs := [5]) (by kernel_rfl) (by simp) ?_
    refine AllReadyH.cons rfl (fun Kz hKz => ?_) AllReadyH.nil
    (try simp only [List.getElem_toArray, List.getElem_cons_zero, List.getElem_cons_succ])
    go_simp
    refine hKz.out _ _ (by (try dsimp only); exact ⟨(by exact updT), (by exact curT), (Blk.cast (by exact blkT) setsT)⟩) (fun hHeld => ?_)
    clear hKz Kz
    (try simp only [List.getElem_toArray, List.getElem_cons_zero, List.getElem_cons_succ, Act.put, List.setIfInBounds_toArray, List.set_cons_zero, List.set_cons_succ])
    refine wpAnyH_done (by kernel_rfl) ?_ _
    go_wp2_with fail
    refine bodyPost_ret (by simp [results, Tryz.results192, go_sem, CR5, FR5, LR5, CD5, FD5, LD5]; try rfl) rfl ?_
    exact ⟨_, rfl, by exact updT, by exact curT, ⟨_, s⟩, ⟨_, _, rfl, OwnI.mono (by first | (with_reducible exact Op5) | (refine OwnI.drawn Op5 ?_ (by omega); (exact updT); done) | (refine OwnI.updX Op5 KR5 (by decide) ?_; (exact updT); done) | (refine OwnI.updX Op5 KD5 (by decide) ?_; (exact updT); done) | (refine OwnI.updX2 Op5 KR5 KD5 (by decide) (by decide) ?_; (exact upd2T); done)) (by omega), OwnI.mono (by first | (with_reducible exact Oj5) | (refine OwnI.drawn Oj5 ?_ (by omega); (exact updT); done) | (refine OwnI.updX Oj5 KR5 (by decide) ?_; (exact updT); done) | (refine OwnI.updX Oj5 KD5 (by decide) ?_; (exact updT); done) | (refine OwnI.updX2 Oj5 KR5 KD5 (by decide) (by decide) ?_; (exact upd2T); done)) (by omega)⟩⟩
set_option maxHeartbeats 4000000 in
set_option maxRecDepth 100000 in
theorem l18DrawAny_c {B : Nat} {w : World} {g : Nat} (h : Cur B w g) : Calls Tryz.prog 108 #[.pointer (some ⟨g, 0, none⟩)] w (Dr B w g fun v w' => ∃ s : DShot, IsShot w.heap.size w' v s) := by
  have hc0 := h; have E0 : Upd w w [g] := Upd.refl _ _
  have hg0 := h.lt
  go_enter Tryz.func108, Tryz.ntmps108
  go_wp2_with fail
  refine (l18Draw_c (show Cur B _ g from by exact curT)).mono ?_
  rintro e w1 ⟨_, rfl, X1, hc1, s, hs⟩
  have hz1 := X1.size; (try simp only [World.size_alloc, World.size_setCell, size_setRow, size_drew] at hz1)
  have E1 : Upd w w1 [g] := Upd.trans (by exact updT) X1
  have KR1 : Blk w1 w.heap.size 92 #[.int .i64 0, .int .i64 0, .int .i64 0, .slice none 0 0, .slice none 0 0, .int .i64 0, .int .i64 0, .int .i64 0] := Blk.upd1 (Blk.cast (by exact blkT) (by first | rfl | simp)) X1 (by omega)
  clear X1
  have CR1 := KR1.cell; have FR1 := KR1.frozen; have LR1 := KR1.lt
  replace hs := hs.mono (B' := w.heap.size) (by first | omega | (simp only [World.size_alloc]; omega))
  obtain ⟨t2, t3, rfl, h2, h3⟩ := hs
  obtain ⟨a2, n2, k2, rfl⟩ := h2.shape
  obtain ⟨a3, n3, k3, rfl⟩ := h3.shape
  have Op1 := h2; have Oj1 := h3; clear h2 h3
  go_wp2_with fail
  refine (l1Once_c (show Cur B _ g from by exact curT) 6).mono ?_
  rintro e w2 ⟨_, rfl, X2, hc2, b1, rfl⟩
  have hz2 := X2.size; (try simp only [World.size_alloc, World.size_setCell, size_setRow, size_drew] at hz2)
  have E2 : Upd w w2 [g] := Upd.trans (by exact updT) X2
  have KR2 : Blk w2 w.heap.size 92 #[.int .i64 0, .int .i64 0, .int .i64 0, .slice none 0 0, .slice none 0 0, .int .i64 0, .int .i64 0, .int .i64 0] := Blk.upd1 (Blk.cast (by exact blkT) (by first | rfl | simp)) X2 (by omega)
  have KD2 : Blk w2 w1.heap.size 92 #[.int .i64 s.Num, .int .i64 s.State.Index, .int .i64 s.State.Time, .slice a2 n2 k2, .slice a3 n3 k3, .int .i64 s.State.Lease.Holder, .int .i64 s.State.Lease.Epoch, .int .i64 s.State.Lease.Until] := Blk.upd1 (Blk.cast (by exact blkT) (by first | rfl | simp)) X2 (by omega)
  have Op2 : OwnI w.heap.size 129 2 w2 (.slice a2 n2 k2) (flPair s.State.Pairs) := OwnI.drawn (by first | (with_reducible exact Op1) | (refine OwnI.updX Op1 KR1 (by decide) ?_; (exact updT); done) | (refine OwnI.updX Op1 KD1 (by decide) ?_; (exact updT); done) | (refine OwnI.updX2 Op1 KR1 KD1 (by decide) (by decide) ?_; (exact upd2T); done) | (exact ownT)) X2 (by omega)
  have Oj2 : OwnI w.heap.size 142 5 w2 (.slice a3 n3 k3) (flJob s.State.Jobs) := OwnI.drawn (by first | (with_reducible exact Oj1) | (refine OwnI.updX Oj1 KR1 (by decide) ?_; (exact updT); done) | (refine OwnI.updX Oj1 KD1 (by decide) ?_; (exact updT); done) | (refine OwnI.updX2 Oj1 KR1 KD1 (by decide) (by decide) ?_; (exact upd2T); done) | (exact ownT)) X2 (by omega)
  clear X2
  clear CR1 FR1 LR1
  have CR2 := KR2.cell; have FR2 := KR2.frozen; have LR2 := KR2.lt
  have CD2 := KD2.cell; have FD2 := KD2.frozen; have LD2 := KD2.lt
  cases b1
  rotate_left
  · skip
    go_wp2_with fail
    refine (l1Below_c (show Cur B _ g from by exact curT) 3).mono ?_
    rintro e w3 ⟨_, rfl, X3, hc3, m, rfl, pm, qm, rm⟩
    have hz3 := X3.size; (try simp only [World.size_alloc, World.size_setCell, size_setRow, size_drew] at hz3)
    have E3 : Upd w w3 [g] := Upd.trans (by exact updT) X3
    have KR3 : Blk w3 w.heap.size 92 #[.int .i64 0, .int .i64 0, .int .i64 0, .slice none 0 0, .slice none 0 0, .int .i64 0, .int .i64 0, .int .i64 0] := Blk.upd1 (Blk.cast (by exact blkT) (by first | rfl | simp)) X3 (by omega)
    have KD3 : Blk w3 w1.heap.size 92 #[.int .i64 s.Num, .int .i64 s.State.Index, .int .i64 s.State.Time, .slice a2 n2 k2, .slice a3 n3 k3, .int .i64 s.State.Lease.Holder, .int .i64 s.State.Lease.Epoch, .int .i64 s.State.Lease.Until] := Blk.upd1 (Blk.cast (by exact blkT) (by first | rfl | simp)) X3 (by omega)
    have Op3 : OwnI w.heap.size 129 2 w3 (.slice a2 n2 k2) (flPair s.State.Pairs) := OwnI.drawn (by first | (with_reducible exact Op2) | (refine OwnI.updX Op2 KR2 (by decide) ?_; (exact updT); done) | (refine OwnI.updX Op2 KD2 (by decide) ?_; (exact updT); done) | (refine OwnI.updX2 Op2 KR2 KD2 (by decide) (by decide) ?_; (exact upd2T); done) | (exact ownT)) X3 (by omega)
    have Oj3 : OwnI w.heap.size 142 5 w3 (.slice a3 n3 k3) (flJob s.State.Jobs) := OwnI.drawn (by first | (with_reducible exact Oj2) | (refine OwnI.updX Oj2 KR2 (by decide) ?_; (exact updT); done) | (refine OwnI.updX Oj2 KD2 (by decide) ?_; (exact updT); done) | (refine OwnI.updX2 Oj2 KR2 KD2 (by decide) (by decide) ?_; (exact upd2T); done) | (exact ownT)) X3 (by omega)
    clear X3
    clear CR2 FR2 LR2 CD2 FD2 LD2
    have CR3 := KR3.cell; have FR3 := KR3.frozen; have LR3 := KR3.lt
    have CD3 := KD3.cell; have FD3 := KD3.frozen; have LD3 := KD3.lt
    have qm := qm (by decide); clear rm
    obtain rfl | rfl | rfl : m = 0 ∨ m = 1 ∨ m = 2 := by omega
    · skip
      go_wp2_with fail
      refine (l1Below_c (show Cur B _ g from by exact curT) 4).mono ?_
      rintro e w4 ⟨_, rfl, X4, hc4, ui, rfl, pu, qu, ru⟩
      have hz4 := X4.size; (try simp only [World.size_alloc, World.size_setCell, size_setRow, size_drew] at hz4)
      have E4 : Upd w w4 [g] := Upd.trans (by exact updT) X4
      have KR4 : Blk w4 w.heap.size 92 #[.int .i64 0, .int .i64 0, .int .i64 0, .slice none 0 0, .slice none 0 0, .int .i64 0, .int .i64 0, .int .i64 0] := Blk.upd1 (Blk.cast (by exact blkT) (by first | rfl | simp)) X4 (by omega)
      have KD4 : Blk w4 w1.heap.size 92 #[.int .i64 s.Num, .int .i64 s.State.Index, .int .i64 s.State.Time, .slice a2 n2 k2, .slice a3 n3 k3, .int .i64 s.State.Lease.Holder, .int .i64 s.State.Lease.Epoch, .int .i64 s.State.Lease.Until] := Blk.upd1 (Blk.cast (by exact blkT) (by first | rfl | simp)) X4 (by omega)
      have KPk4 : Blk w4 w3.heap.size 2 #[.int .i64 0, .int .i64 (-1), .int .i64 1000000000, .int .i64 1000000001] := Blk.upd1 (Blk.cast (by exact blkT) (by first | rfl | simp)) X4 (by omega)
      have Op4 : OwnI w.heap.size 129 2 w4 (.slice a2 n2 k2) (flPair s.State.Pairs) := OwnI.drawn (by first | (with_reducible exact Op3) | (refine OwnI.updX Op3 KR3 (by decide) ?_; (exact updT); done) | (refine OwnI.updX Op3 KD3 (by decide) ?_; (exact updT); done) | (refine OwnI.updX2 Op3 KR3 KD3 (by decide) (by decide) ?_; (exact upd2T); done) | (exact ownT)) X4 (by omega)
      have Oj4 : OwnI w.heap.size 142 5 w4 (.slice a3 n3 k3) (flJob s.State.Jobs) := OwnI.drawn (by first | (with_reducible exact Oj3) | (refine OwnI.updX Oj3 KR3 (by decide) ?_; (exact updT); done) | (refine OwnI.updX Oj3 KD3 (by decide) ?_; (exact updT); done) | (refine OwnI.updX2 Oj3 KR3 KD3 (by decide) (by decide) ?_; (exact upd2T); done) | (exact ownT)) X4 (by omega)
      clear X4
      clear CR3 FR3 LR3 CD3 FD3 LD3
      have CR4 := KR4.cell; have FR4 := KR4.frozen; have LR4 := KR4.lt
      have CD4 := KD4.cell; have FD4 := KD4.frozen; have LD4 := KD4.lt
      have CPk4 := KPk4.cell; have FPk4 := KPk4.frozen; have LPk4 := KPk4.lt
      have qu := qu (by decide); clear ru
      obtain ⟨u, hu⟩ : ∃ u : Int, w4.cell? ⟨w3.heap.size, ui.toNat, none⟩ = some (.int .i64 u) := by
        rw [KPk4.cell]
        have : ui.toNat < 4 := by omega
        exact pick_int [0, -1, 1000000000, 1000000001] this
      clear CPk4
      go_wp2_with fail
      refine bodyPost_ret (by simp [results, Tryz.results108, go_sem, CR4, FR4, LR4, CD4, FD4, LD4, FPk4, LPk4, hu]; try rfl) rfl ?_
      exact ⟨_, rfl, by exact updT, by exact curT, ⟨u, s.State⟩, ⟨_, _, rfl, OwnI.mono (by first | (with_reducible exact Op4) | (refine OwnI.drawn Op4 ?_ (by omega); (exact updT); done) | (refine OwnI.updX Op4 KR4 (by decide) ?_; (exact updT); done) | (refine OwnI.updX Op4 KD4 (by decide) ?_; (exact updT); done) | (refine OwnI.updX2 Op4 KR4 KD4 (by decide) (by decide) ?_; (exact upd2T); done)) (by omega), OwnI.mono (by first | (with_reducible exact Oj4) | (refine OwnI.drawn Oj4 ?_ (by omega); (exact updT); done) | (refine OwnI.updX Oj4 KR4 (by decide) ?_; (exact updT); done) | (refine OwnI.updX Oj4 KD4 (by decide) ?_; (exact updT); done) | (refine OwnI.updX2 Oj4 KR4 KD4 (by decide) (by decide) ?_; (exact upd2T); done)) (by omega)⟩⟩
    · skip
      go_wp2_with fail
      refine (l17DrawAny_c (show Cur B _ g from by exact curT)).mono ?_
      rintro e w4 ⟨_, rfl, X4, hc4, s2, hs2⟩
      have hz4 := X4.size; (try simp only [World.size_alloc, World.size_setCell, size_setRow, size_drew] at hz4)
      have E4 : Upd w w4 [g] := Upd.trans (by exact updT) X4
      have KR4 : Blk w4 w.heap.size 92 #[.int .i64 0, .int .i64 0, .int .i64 0, .slice none 0 0, .slice none 0 0, .int .i64 0, .int .i64 0, .int .i64 0] := Blk.upd1 (Blk.cast (by exact blkT) (by first | rfl | simp)) X4 (by omega)
      have KD4 : Blk w4 w1.heap.size 92 #[.int .i64 s.Num, .int .i64 s.State.Index, .int .i64 s.State.Time, .slice a2 n2 k2, .slice a3 n3 k3, .int .i64 s.State.Lease.Holder, .int .i64 s.State.Lease.Epoch, .int .i64 s.State.Lease.Until] := Blk.upd1 (Blk.cast (by exact blkT) (by first | rfl | simp)) X4 (by omega)
      clear X4
      clear CR3 FR3 LR3 CD3 FD3 LD3
      have CR4 := KR4.cell; have FR4 := KR4.frozen; have LR4 := KR4.lt
      have CD4 := KD4.cell; have FD4 := KD4.frozen; have LD4 := KD4.lt
      obtain ⟨t4, t5, rfl, h4, h5⟩ := hs2
      obtain ⟨a4, n4, k4, rfl⟩ := h4.shape
      obtain ⟨a5, n5, k5, rfl⟩ := h5.shape
      have Op4 := h4; have Oj4 := h5; clear h4 h5
      go_wp2_with fail
      refine bodyPost_ret (by simp [results, Tryz.results108, go_sem, CR4, FR4, LR4, CD4, FD4, LD4]; try rfl) rfl ?_
      exact ⟨_, rfl, by exact updT, by exact curT, ⟨s.Num, s2⟩, ⟨_, _, rfl, OwnI.mono (by first | (with_reducible exact Op4) | (refine OwnI.drawn Op4 ?_ (by omega); (exact updT); done) | (refine OwnI.updX Op4 KR4 (by decide) ?_; (exact updT); done) | (refine OwnI.updX Op4 KD4 (by decide) ?_; (exact updT); done) | (refine OwnI.updX2 Op4 KR4 KD4 (by decide) (by decide) ?_; (exact upd2T); done)) (by omega), OwnI.mono (by first | (with_reducible exact Oj4) | (refine OwnI.drawn Oj4 ?_ (by omega); (exact updT); done) | (refine OwnI.updX Oj4 KR4 (by decide) ?_; (exact updT); done) | (refine OwnI.updX Oj4 KD4 (by decide) ?_; (exact updT); done) | (refine OwnI.updX2 Oj4 KR4 KD4 (by decide) (by decide) ?_; (exact upd2T); done)) (by omega)⟩⟩
    · skip
      go_wp2_with fail
      refine (sNewState_c _).mono ?_
      rintro e w4 ⟨rfl, hx4⟩
      have hz4 := hx4.size; (try simp only [World.size_alloc, World.size_setCell, size_setRow, size_drew] at hz4)
      have E4 : Upd w w4 [g] := Upd.ext (by exact updT) hx4
      have hc4 : Cur B w4 g := Cur.ext (by exact curT) hx4
      have KR4 : Blk w4 w.heap.size 92 #[.int .i64 0, .int .i64 0, .int .i64 0, .slice none 0 0, .slice none 0 0, .int .i64 0, .int .i64 0, .int .i64 0] := Blk.ext (Blk.cast (by exact blkT) (by first | rfl | simp)) hx4
      have KD4 : Blk w4 w1.heap.size 92 #[.int .i64 s.Num, .int .i64 s.State.Index, .int .i64 s.State.Time, .slice a2 n2 k2, .slice a3 n3 k3, .int .i64 s.State.Lease.Holder, .int .i64 s.State.Lease.Epoch, .int .i64 s.State.Lease.Until] := Blk.ext (Blk.cast (by exact blkT) (by first | rfl | simp)) hx4
      clear hx4
      clear CR3 FR3 LR3 CD3 FD3 LD3
      have CR4 := KR4.cell; have FR4 := KR4.frozen; have LR4 := KR4.lt
      have CD4 := KD4.cell; have FD4 := KD4.frozen; have LD4 := KD4.lt
      go_wp2_with fail
      refine bodyPost_ret (by simp [results, Tryz.results108, go_sem, CR4, FR4, LR4, CD4, FD4, LD4]; try rfl) rfl ?_
      exact ⟨_, rfl, by exact updT, by exact curT, ⟨s.Num, ⟨0, 0, [], [], ⟨0, 0, 0⟩⟩⟩, ⟨_, _, rfl, OwnI.nil _ _ _ _, OwnI.nil _ _ _ _⟩⟩
  · skip
    go_wp2_with fail
    refine bodyPost_ret (by simp [results, Tryz.results108, go_sem, CR2, FR2, LR2, CD2, FD2, LD2]; try rfl) rfl ?_
    exact ⟨_, rfl, by exact updT, by exact curT, ⟨s.Num, s.State⟩, ⟨_, _, rfl, OwnI.mono (by first | (with_reducible exact Op2) | (refine OwnI.drawn Op2 ?_ (by omega); (exact updT); done) | (refine OwnI.updX Op2 KR2 (by decide) ?_; (exact updT); done) | (refine OwnI.updX Op2 KD2 (by decide) ?_; (exact updT); done) | (refine OwnI.updX2 Op2 KR2 KD2 (by decide) (by decide) ?_; (exact upd2T); done)) (by omega), OwnI.mono (by first | (with_reducible exact Oj2) | (refine OwnI.drawn Oj2 ?_ (by omega); (exact updT); done) | (refine OwnI.updX Oj2 KR2 (by decide) ?_; (exact updT); done) | (refine OwnI.updX Oj2 KD2 (by decide) ?_; (exact updT); done) | (refine OwnI.updX2 Oj2 KR2 KD2 (by decide) (by decide) ?_; (exact upd2T); done)) (by omega)⟩⟩
set_option maxHeartbeats 4000000 in
set_option maxRecDepth 100000 in
theorem drawShotRows_c {w : World} {v : Value} (h : Bytes w v) : Calls Tryz.prog 38 #[v] w (Ret w fun v w' => ∃ s : DShot, IsShot w.heap.size w' v s) := by
  go_enter Tryz.func38, Tryz.ntmps38
  go_wp2_with fail
  refine (l1New_c (h.ext (by repeat' (first | (with_reducible exact Ext.refl _) | (with_reducible assumption) | (with_reducible refine Ext.drewN ?_ _) | (with_reducible refine Ext.drew ?_) | (with_reducible refine Ext.alloc ?_ _) | (with_reducible refine Ext.setCell ?_ ?_ _) | (with_reducible refine Ext.setRow ?_ ?_ _) | (with_reducible exact Nat.le_refl _) | (with_reducible refine Ext.trans ?_ (by assumption)) | omega)))).mono ?_
  rintro e w1 ⟨_, rfl, hx1, g, rfl, hc1⟩
  have KR1 : Blk w1 w.heap.size 92 #[.int .i64 0, .int .i64 0, .int .i64 0, .slice none 0 0, .slice none 0 0, .int .i64 0, .int .i64 0, .int .i64 0] := Blk.ext (by exact blkT) hx1
  have E1 : Ext w w1 := Ext.trans (by repeat' (first | (with_reducible exact Ext.refl _) | (with_reducible assumption) | (with_reducible refine Ext.drewN ?_ _) | (with_reducible refine Ext.drew ?_) | (with_reducible refine Ext.alloc ?_ _) | (with_reducible refine Ext.setCell ?_ ?_ _) | (with_reducible refine Ext.setRow ?_ ?_ _) | (with_reducible exact Nat.le_refl _) | (with_reducible refine Ext.trans ?_ (by assumption)) | omega)) hx1
  have hz1 := hx1.size; (try simp only [World.size_alloc] at hz1)
  have hg1 := hc1.lt; (try simp only [World.size_alloc] at hg1)
  clear hx1
  go_wp2_with fail
  refine (l18DrawAny_c hc1).mono ?_
  rintro e w2 ⟨_, rfl, X2, hc2, s, hs⟩
  have hz2 := X2.size
  have E2 : Ext w w2 := E1.upd_below X2 (fun k hk => by simp at hk; omega)
  have KR2 := KR1.upd1 X2 (by omega)
  clear X2 KR1
  have CR2 := KR2.cell; have FR2 := KR2.frozen; have LR2 := KR2.lt
  obtain ⟨t2, t3, rfl, h2, h3⟩ := hs
  obtain ⟨a2, n2, k2, rfl⟩ := h2.shape
  obtain ⟨a3, n3, k3, rfl⟩ := h3.shape
  go_wp2_with fail
  refine bodyPost_ret (by simp [results, Tryz.results38, go_sem, CR2, FR2, LR2]; try rfl) rfl ?_
  exact ⟨_, rfl, by repeat' (first | (with_reducible exact Ext.refl _) | (with_reducible assumption) | (with_reducible refine Ext.drewN ?_ _) | (with_reducible refine Ext.drew ?_) | (with_reducible refine Ext.alloc ?_ _) | (with_reducible refine Ext.setCell ?_ ?_ _) | (with_reducible refine Ext.setRow ?_ ?_ _) | (with_reducible exact Nat.le_refl _) | (with_reducible refine Ext.trans ?_ (by assumption)) | omega), s, _, _, rfl, (OwnI.updX h2 KR2 (by decide) (by exact updT)).mono (by omega), (OwnI.updX h3 KR2 (by decide) (by exact updT)).mono (by omega)⟩

end Go.Proofs.YtohoemphmghblaaGreat

-- A snapshot written and read back, without the program.
set_option linter.unusedSimpArgs false
set_option linter.unusedVariables false
namespace Go.Proofs.YtohoemphmghblaaGreat
open Go.RowKit Go.G8

end Go.Proofs.YtohoemphmghblaaGreat
namespace Go.G8
open Go.RowKit
open Go.Proofs.YtohoemphmghblaaGreat
theorem rowOk_snoc {l : List Int} {x : Int} (h : rowOk l = true) (hl : l.length < 48) (h0 : 0 ≤ x) (h1 : x ≤ 1000000000) : rowOk (l ++ [x]) = true := by
  simp only [rowOk, Bool.and_eq_true, decide_eq_true_eq, List.all_append, List.all_cons, List.all_nil, Bool.and_true, List.length_append, List.length_cons, List.length_nil] at h ⊢
  exact ⟨by omega, h.2, inb_of h0 h1⟩
theorem rowOk_low {l : List Int} (h : rowOk l = true) : ∀ x, x ∈ l → 0 ≤ x := by
  simp only [rowOk, Bool.and_eq_true, List.all_eq_true] at h
  exact fun x hx => (inb_true.1 (h.2 x hx)).1
theorem shotRows_row {s : DShot} (h : shotOk s = true) : ∀ r, r ∈ shotRows s → rowOk r = true := by
  intro r hr
  obtain ⟨p, hp⟩ := List.mem_iff_getElem?.1 hr
  have hl := shotRows_len h
  have hlt : p < (shotRows s).length := by
    rcases Nat.lt_or_ge p (shotRows s).length with h' | h'
    · exact h'
    · rw [List.getElem?_eq_none h'] at hp; cases hp
  rw [shotRows_at h hlt] at hp
  obtain rfl := Option.some.inj hp
  rw [withSum_shot h (by omega)]
  have h1 := shotRow_ok h (p := p) (by omega)
  have h2 := shotRow_len s (stateNums s.State) p
  have h3 := sumOf_low _ (rowOk_low h1)
  exact rowOk_snoc h1 (by omega) h3.1 (by omega)
/-- The writes of rows to a slot. -/
def wrs (slot : Int) (rows : List (List Int)) (k : Nat) : List DWrite := (List.range k).map (fun (i : Nat) => ⟨slot * 4 + (i : Int), rowK rows i⟩)
theorem wrs_len (slot : Int) (rows : List (List Int)) (k : Nat) : (wrs slot rows k).length = k := by simp [wrs]
theorem wrs_at (slot : Int) (rows : List (List Int)) {k i : Nat} (h : i < k) : (wrs slot rows k)[i]? = some ⟨slot * 4 + (i : Int), rowK rows i⟩ := by simp [wrs, h]
theorem wrs_get {slot : Int} {rows : List (List Int)} {k j : Nat} {y : DWrite} (h : (wrs slot rows k)[j]? = some y) : j < k ∧ y = ⟨slot * 4 + (j : Int), rowK rows j⟩ := by
  have hj : j < k := by
    rcases Nat.lt_or_ge j k with h' | h'
    · exact h'
    · rw [List.getElem?_eq_none (by rw [wrs_len]; exact h')] at h; cases h
  rw [wrs_at slot rows hj] at h
  exact ⟨hj, (Option.some.inj h).symm⟩
theorem wrs_succ (slot : Int) (rows : List (List Int)) (k : Nat) : wrs slot rows (k + 1) = wrs slot rows k ++ [⟨slot * 4 + (k : Int), rowK rows k⟩] := by simp [wrs, List.range_succ]
theorem slot_in {slot : Int} (h : slot01 slot = true) : slot = 0 ∨ slot = 1 := by
  simpa [slot01] using h
theorem wrs_disk {K : List (List Int)} {slot : Int} {rows : List (List Int)} {k : Nat} (hd : shelfOk ⟨K, []⟩ = true) (hs : slot01 slot = true) (hr : ∀ i, i < k → rowOk (rowK rows i) = true) (hk : k ≤ 4) : shelfOk ⟨K, wrs slot rows k⟩ = true := by
  simp only [shelfOk, diskOk, Bool.and_eq_true, decide_eq_true_eq] at hd ⊢
  obtain ⟨⟨h1, h2, _⟩, h3⟩ := hd
  refine ⟨⟨⟨h1.1, h1.2.1, by rw [wrs_len]; omega⟩, h2, ?_⟩, h3⟩
  rw [List.all_eq_true]
  intro x hx
  obtain ⟨j, hj⟩ := List.mem_iff_getElem?.1 hx
  obtain ⟨hjk, rfl⟩ := wrs_get hj
  simp only [writeOk, Bool.and_eq_true]
  refine ⟨inb_of ?_ ?_, hr j hjk⟩ <;> rcases slot_in hs with rfl | rfl <;> simp [h3] <;> omega
theorem sw_wrs {K : List (List Int)} {slot : Int} {rows : List (List Int)} {n : Nat} (hd : shelfOk ⟨K, []⟩ = true) (hs : slot01 slot = true) (hr : ∀ i, i < n → rowOk (rowK rows i) = true) (hn : n ≤ 4) : ∀ k, k ≤ n → swK ⟨K, []⟩ slot rows k = ⟨K, wrs slot rows k⟩ ∧ (k < n → wrOk (swK ⟨K, []⟩ slot rows k) (slot * 4 + (k : Int)) (rowK rows k) = true)
  | 0, _ => by
    have h8 : K.length = 8 := by simp only [shelfOk, Bool.and_eq_true, decide_eq_true_eq] at hd; exact hd.2
    refine ⟨rfl, fun h => ?_⟩
    simp only [wrOk, swK, Bool.and_eq_true, decide_eq_true_eq]
    refine ⟨by simp only [shelfOk, Bool.and_eq_true] at hd; exact hd.1, inb_of ?_ ?_, hr 0 h, by simp⟩ <;> rcases slot_in hs with rfl | rfl <;> simp [h8]
  | k + 1, hk => by
    have h8 : K.length = 8 := by simp only [shelfOk, Bool.and_eq_true, decide_eq_true_eq] at hd; exact hd.2
    obtain ⟨e, hw⟩ := sw_wrs hd hs hr hn k (by omega)
    have hw := hw (by omega)
    have hok : diskOk ⟨K, wrs slot rows k⟩ = true := by have := wrs_disk hd hs (k := k) (fun i hi => hr i (by omega)) (by omega); simp only [shelfOk, Bool.and_eq_true] at this; exact this.1
    have e2 : swK ⟨K, []⟩ slot rows (k + 1) = ⟨K, wrs slot rows (k + 1)⟩ := by
      show wrD (swK ⟨K, []⟩ slot rows k) _ _ = _
      rw [e] at hw ⊢
      unfold wrD
      rw [if_pos hok, if_pos hw, wrs_succ]
    refine ⟨e2, fun h => ?_⟩
    rw [e2]
    have hok2 : diskOk ⟨K, wrs slot rows (k + 1)⟩ = true := by have := wrs_disk hd hs (k := k + 1) (fun i hi => hr i (by omega)) (by omega); simp only [shelfOk, Bool.and_eq_true] at this; exact this.1
    simp only [wrOk, Bool.and_eq_true, decide_eq_true_eq]
    refine ⟨hok2, inb_of ?_ ?_, hr _ h, by rw [wrs_len]; omega⟩ <;> rcases slot_in hs with rfl | rfl <;> simp [h8] <;> omega
theorem rowK_ok {rows : List (List Int)} (h : ∀ r, r ∈ rows → rowOk r = true) {i : Nat} (hi : i < rows.length) : rowOk (rowK rows i) = true := by
  unfold rowK
  rw [List.getElem?_eq_getElem hi]
  exact h _ (List.getElem_mem hi)
/-- A valid snapshot is written. -/
theorem sh_yes {K : List (List Int)} {slot : Int} {S : DShot} (hd : shelfOk ⟨K, []⟩ = true) (hs : slot01 slot = true) (hS : shotOk S = true) :
    shOk ⟨K, []⟩ slot S = true ∧ shD ⟨K, []⟩ slot S = ⟨K, wrs slot (shotRows S) (shotRows S).length⟩ := by
  have hl := shotRows_len hS
  have h1 := sw_wrs hd hs (rows := shotRows S) (n := (shotRows S).length) (fun i hi => rowK_ok (shotRows_row hS) hi) hl.2.2
  obtain ⟨a, b⟩ := shOk_true hd hs hS (fun k hk => (h1 k (by omega)).2 hk)
  exact ⟨a, by rw [b, (h1 _ (Nat.le_refl _)).1]⟩
theorem read_wrs {K : List (List Int)} {slot : Int} {rows : List (List Int)} {n i : Nat} (hi : i < n) : readAt ⟨K, wrs slot rows n⟩ (slot * 4 + (i : Int)) = rowK rows i := by
  unfold readAt
  rw [find_rev_some (wrs_at slot rows hi) (by simp) (fun j y hj hy => by obtain ⟨_, rfl⟩ := wrs_get hy; simp; omega)]
theorem read_else {K : List (List Int)} {slot : Int} {rows : List (List Int)} {n : Nat} {at_ : Int} (h : ∀ i : Nat, i < n → slot * 4 + (i : Int) ≠ at_) : readAt ⟨K, wrs slot rows n⟩ at_ = (K[at_.toNat]?).getD [] := by
  unfold readAt
  rw [find_rev_none (fun j y hy => by obtain ⟨hj, rfl⟩ := wrs_get hy; simpa using h j hj)]
theorem sec_in {d : DDisk} {slot : Int} (hd : shelfOk d = true) (hs : slot01 slot = true) {i : Nat} (hi : i < 4) : secRow d slot i = readAt d (slot * 4 + (i : Int)) := by
  unfold secRow readIf
  rw [if_pos]
  simp only [shelfOk, Bool.and_eq_true, decide_eq_true_eq] at hd
  simp only [readOk, Bool.and_eq_true]
  refine ⟨hd.1, inb_of ?_ ?_⟩ <;> rcases slot_in hs with rfl | rfl <;> simp [hd.2] <;> omega
theorem at_rows {d : DDisk} {slot : Int} {S : DShot} (hd : shelfOk d = true) (hs : slot01 slot = true) (hS : shotOk S = true) (h : ∀ i, i < (shotRows S).length → secRow d slot i = rowK (shotRows S) i) : shotAt d slot = some S := by
  have hl := shotRows_len hS
  obtain ⟨r, hr, _, _, h3, _⟩ := shotRows_first hS
  have hb := stateNums_bound (shotOk_parts hS).2.2.1
  have hn := stateNums_len S.State
  have e0 : secRow d slot 0 = r := by rw [h 0 (by omega)]; unfold rowK; rw [hr]; rfl
  rw [shotAt_in hd hs (t := ((stateNums S.State).length : Int)) (by rw [e0]; exact h3) (inb_of (by omega) (by omega)), Int.toNat_natCast, ← hl.1]
  refine readShot_some hS ?_
  refine List.ext_getElem? fun i => ?_
  rcases Nat.lt_or_ge i (shotRows S).length with hi | hi
  · rw [List.getElem?_eq_getElem hi]
    simp only [secRows, List.getElem?_map, List.getElem?_range hi, Option.map_some]
    rw [h i hi]; unfold rowK; rw [List.getElem?_eq_getElem hi]; rfl
  · rw [List.getElem?_eq_none hi, List.getElem?_eq_none (by simpa [secRows] using hi)]
theorem at_empty {d : DDisk} {slot : Int} (h : secRow d slot 0 = []) : shotAt d slot = none := shotAt_short (by rw [h]; simp)
/-- Where all waiting writes are made. -/
theorem fall_all (fates : List Int) {K : List (List Int)} {slot : Int} {rows : List (List Int)} {n : Nat} (h8 : K.length = 8) (hs : slot01 slot = true) (hn : n ≤ 4) (j : Nat) : ∀ k, k ≤ n →
    (fallK true fates ⟨K, wrs slot rows n⟩ k)[j]? = if slot * 4 ≤ (j : Int) ∧ (j : Int) < slot * 4 + (k : Int) then some (rowK rows (j - (slot * 4).toNat)) else K[j]?
  | 0, _ => by
    rw [if_neg (by omega)]; rfl
  | k + 1, hk => by
    have ih := fall_all fates (rows := rows) h8 hs hn j k (by omega)
    rw [fallK_succ (x := ⟨slot * 4 + (k : Int), rowK rows k⟩) (wrs_at slot rows (by omega))]
    have e : fallStep true (fate fates k) (fallK true fates ⟨K, wrs slot rows n⟩ k) ⟨slot * 4 + (k : Int), rowK rows k⟩ = (fallK true fates ⟨K, wrs slot rows n⟩ k).set (slot * 4 + (k : Int)).toNat (rowK rows k) := by simp [fallStep]
    rw [e, List.getElem?_set]
    have hl : (fallK true fates ⟨K, wrs slot rows n⟩ k).length = 8 := by rw [fallK_len]; exact h8
    rcases slot_in hs with rfl | rfl
    · by_cases hj : j = k
      · subst hj
        rw [if_pos (by omega), if_pos (by omega), if_pos (by omega)]; simp
      · rw [if_neg (by omega), ih]
        by_cases hj2 : j < k
        · rw [if_pos (by omega), if_pos (by omega)]
        · rw [if_neg (by omega), if_neg (by omega)]
    · by_cases hj : j = 4 + k
      · subst hj
        rw [if_pos (by omega), if_pos (by omega), if_pos (by omega)]; simp
      · rw [if_neg (by omega), ih]
        by_cases hj2 : 4 ≤ j ∧ j < 4 + k
        · rw [if_pos (by omega), if_pos (by omega)]
        · rw [if_neg (by omega), if_neg (by omega)]
theorem fall_rows {fates : List Int} {all : Bool} {K : List (List Int)} {slot : Int} {rows : List (List Int)} {n : Nat} (hd : shelfOk ⟨K, []⟩ = true) (hs : slot01 slot = true) (hr : ∀ i, i < n → rowOk (rowK rows i) = true) (hn : n ≤ 4) (he : ∀ r, r ∈ fallK all fates ⟨K, wrs slot rows n⟩ n → rowOk r = true) :
    fallenDisk all fates ⟨K, wrs slot rows n⟩ = ⟨fallK all fates ⟨K, wrs slot rows n⟩ n, []⟩ ∧ shelfOk ⟨fallK all fates ⟨K, wrs slot rows n⟩ n, []⟩ = true := by
  have h1 := wrs_disk hd hs hr hn
  have h8 : K.length = 8 := by simp only [shelfOk, Bool.and_eq_true, decide_eq_true_eq] at hd; exact hd.2
  simp only [shelfOk, Bool.and_eq_true] at h1
  refine ⟨by unfold fallenDisk; rw [if_pos h1.1, wrs_len], ?_⟩
  simp only [shelfOk, diskOk, Bool.and_eq_true, decide_eq_true_eq, List.all_eq_true]
  rw [fallK_len]
  exact ⟨⟨⟨by simp [h8], by simp [h8], by simp⟩, he, by simp⟩, h8⟩
theorem shelf_rows {K : List (List Int)} (hd : shelfOk ⟨K, []⟩ = true) : K.length = 8 ∧ ∀ r, r ∈ K → rowOk r = true := by
  simp only [shelfOk, diskOk, Bool.and_eq_true, decide_eq_true_eq, List.all_eq_true] at hd
  exact ⟨hd.2, hd.1.2.1⟩
/-- A shelf with a snapshot written and synced. -/
theorem synced_at {K : List (List Int)} {slot : Int} {S : DShot} (hd : shelfOk ⟨K, []⟩ = true) (hs : slot01 slot = true) (hS : shotOk S = true) :
    ∃ K2, fallenDisk true [] (shD ⟨K, []⟩ slot S) = ⟨K2, []⟩ ∧ shelfOk ⟨K2, []⟩ = true ∧ (∀ i, i < (shotRows S).length → secRow ⟨K2, []⟩ slot i = rowK (shotRows S) i) ∧ (∀ j : Nat, j < 8 → ((j : Int) < slot * 4 ∨ slot * 4 + ((shotRows S).length : Int) ≤ (j : Int)) → K2[j]? = K[j]?) := by
  obtain ⟨h8, hk⟩ := shelf_rows hd
  have hl := shotRows_len hS
  have hr : ∀ i, i < (shotRows S).length → rowOk (rowK (shotRows S) i) = true := fun i hi => rowK_ok (shotRows_row hS) hi
  have hf := fall_all [] (K := K) (slot := slot) (rows := shotRows S) h8 hs hl.2.2
  obtain ⟨e1, e2⟩ := fall_rows (all := true) (fates := []) hd hs hr hl.2.2 (fun r hr2 => by
    obtain ⟨j, hj⟩ := List.mem_iff_getElem?.1 hr2
    rw [hf j _ (Nat.le_refl _)] at hj
    split at hj
    · rename_i hc
      obtain rfl := Option.some.inj hj
      refine hr _ ?_
      rcases slot_in hs with rfl | rfl <;> omega
    · exact hk r (List.mem_of_getElem? hj))
  rw [(sh_yes hd hs hS).2]
  refine ⟨_, e1, e2, fun i hi => ?_, fun j hj hc => ?_⟩
  · rw [sec_in e2 hs (by omega)]
    unfold readAt
    simp only [List.reverse_nil, List.find?_nil]
    have hz : 0 ≤ slot := by rcases slot_in hs with rfl | rfl <;> omega
    rw [hf _ _ (Nat.le_refl _), if_pos (by omega)]
    have : (slot * 4 + (i : Int)).toNat - (slot * 4).toNat = i := by omega
    rw [this]; rfl
  · rw [hf _ _ (Nat.le_refl _), if_neg (by omega)]
theorem nd_shelf : shelfOk (newDisk 8) = true := by decide
theorem back_yes {slot : Int} {S : DShot} (hs : slot01 slot = true) (hS : shotOk S = true) :
    shOk (newDisk 8) slot S = true ∧ shotAt (fallenDisk true [] (shD (newDisk 8) slot S)) slot = some S ∧ newOk (shD (newDisk 8) slot S) = true ∧ newAt (shD (newDisk 8) slot S) = slot ∧ readShot (shotRows S) = some S := by
  have e8 : newDisk 8 = ⟨List.replicate 8 [], []⟩ := rfl
  have hd : shelfOk ⟨List.replicate 8 [], []⟩ = true := by decide
  rw [e8]
  obtain ⟨h1, h2⟩ := sh_yes hd hs hS
  obtain ⟨K2, g1, g2, g3, _⟩ := synced_at hd hs hS
  have hl := shotRows_len hS
  have hD := wrs_disk hd hs (rows := shotRows S) (k := (shotRows S).length) (fun i hi => rowK_ok (shotRows_row hS) hi) hl.2.2
  have hat : shotAt ⟨List.replicate 8 [], wrs slot (shotRows S) (shotRows S).length⟩ slot = some S := at_rows hD hs hS (fun i hi => by rw [sec_in hD hs (by omega), read_wrs hi])
  have hno : ∀ t, slot01 t = true → t ≠ slot → shotAt ⟨List.replicate 8 [], wrs slot (shotRows S) (shotRows S).length⟩ t = none := fun t ht hne => at_empty (by
    rw [sec_in hD ht (by omega), read_else (fun i hi => by rcases slot_in hs with rfl | rfl <;> rcases slot_in ht with rfl | rfl <;> omega)]
    rcases slot_in ht with rfl | rfl <;> rfl)
  refine ⟨h1, ?_, ?_, ?_, readShot_some hS rfl⟩
  · rw [g1]; exact at_rows g2 hs hS g3
  · rw [h2]
    rcases slot_in hs with rfl | rfl
    · have a := hno 1 rfl (by decide)
      simp [newOk, newTwo, atOk, a, hat, -List.reduceReplicate]
    · have a := hno 0 rfl (by decide)
      simp [newOk, newTwo, atOk, a, hat, -List.reduceReplicate]
  · rw [h2]
    rcases slot_in hs with rfl | rfl
    · have a := hno 1 rfl (by decide)
      simp [newAt, newTwo, atOk, a, hat, -List.reduceReplicate]
    · have a := hno 0 rfl (by decide)
      simp [newAt, newTwo, atOk, a, hat, -List.reduceReplicate]
theorem back_no {slot : Int} {S : DShot} (hS : shotOk S = false) : shOk (newDisk 8) slot S = false ∧ shD (newDisk 8) slot S = newDisk 8 ∧ newOk (newDisk 8) = false ∧ readShot (shotRows S) = none := by
  obtain ⟨h1, h2⟩ := shOk_false (slot := slot) nd_shelf (.inr (.inl hS))
  have e8 : newDisk 8 = ⟨List.replicate 8 [], []⟩ := rfl
  have ha : ∀ t, slot01 t = true → shotAt (newDisk 8) t = none := fun t ht => at_empty (by
    rw [sec_in nd_shelf ht (by omega), e8]
    rcases slot_in ht with rfl | rfl <;> rfl)
  have a := ha 0 rfl; have b := ha 1 rfl
  refine ⟨h1, h2, by simp [newOk, newTwo, atOk, a, b], readShot_none fun s hs e => ?_⟩
  have := shotRows_len hs
  rw [e, shotRows_empty.2 hS] at this
  omega
end Go.G8
namespace Go.Proofs.YtohoemphmghblaaGreat
open Go.RowKit Go.G8

end Go.Proofs.YtohoemphmghblaaGreat

-- The statement's walk: FnShotBack.
set_option linter.unusedSimpArgs false
set_option linter.unusedVariables false
namespace Go.Proofs.YtohoemphmghblaaGreat
open Go.RowKit Go.G8

theorem RdShot.state {w : World} {s : DShot} {a2 a3 : Option Addr} {n2 k2 n3 k3 : Nat} (h : RdShot w (.agg #[.int .i64 s.Num, .int .i64 s.State.Index, .int .i64 s.State.Time, .slice a2 n2 k2, .slice a3 n3 k3, .int .i64 s.State.Lease.Holder, .int .i64 s.State.Lease.Epoch, .int .i64 s.State.Lease.Until]) s) :
    RdState w (.agg #[.int .i64 s.State.Index, .int .i64 s.State.Time, .slice a2 n2 k2, .slice a3 n3 k3, .int .i64 s.State.Lease.Holder, .int .i64 s.State.Lease.Epoch, .int .i64 s.State.Lease.Until]) s.State := by
  obtain ⟨t2, t3, e, h2, h3⟩ := h
  injection e with e
  simp only [Array.mk.injEq, List.cons.injEq, and_true, true_and] at e
  obtain ⟨e1, e2⟩ := e
  subst e1; subst e2
  exact ⟨_, _, rfl, h2, h3⟩
set_option maxHeartbeats 8000000 in
set_option maxRecDepth 100000 in
theorem law_ShotBack (w : World) (v : Value) (h : Bytes w v) : Calls Tryz.prog 7 #[v] w (RetV w (.bool true)) := by
  obtain ⟨bs, hbs, hbo⟩ := h
  obtain ⟨a, n, k, rfl⟩ := hbs.shape
  have HB : Bytes w (.slice a n k) := ⟨bs, hbs, hbo⟩
  clear hbs hbo
  have E0 : Ext w w := Ext.refl _
  go_enter Tryz.func7, Tryz.ntmps7
  go_wp2_with fail
  refine (big_c _ a n k).mono ?_
  rintro e9 w9 ⟨rfl, rfl⟩
  by_cases hbig : (4096 : Int) < (n : Int)
  · go_wp2_with fail
    go_ret
    exact ⟨rfl, by exact extT⟩
  go_wp2_with fail
  refine (drawShotRows_c (HB.ext (by exact extT))).mono ?_
  rintro e w1 ⟨_, rfl, hx1, s, gs0⟩
  have X1 : Ext w w1 := Ext.trans (by exact extT) hx1
  have hz1 := X1.size
  have hy1 := hx1.size; (try simp only [World.size_alloc, World.size_setCell, size_setRow, size_drew] at hy1)
  have HB := HB.ext X1
  have E1 : Ext w w1 := E0.trans X1
  clear hx1 X1
  have gs := gs0.rd; clear gs0
  obtain ⟨a2, n2, k2, a3, n3, k3, rfl⟩ := gs.shape
  have hl4 : (shotRows s).length ≤ 2000000 := by
    cases h : shotOk s
    · have := shotRows_empty.2 h; omega
    · have := shotRows_len h; omega
  obtain ⟨sl, hsl⟩ : ∃ sl : Int, sl = (n : Int) % 2 := ⟨_, rfl⟩
  have hs01 : slot01 sl = true := by
    have : sl = 0 ∨ sl = 1 := by omega
    rcases this with h | h <;> (rw [h]; rfl)
  obtain ⟨rk, hrk⟩ : ∃ b, b = rsOk (shotRows s) := ⟨_, rfl⟩
  obtain ⟨rs, hrs⟩ : ∃ x, x = rsShot (shotRows s) := ⟨_, rfl⟩
  obtain ⟨wk, hwk⟩ : ∃ b, b = shOk (newDisk 8) sl s := ⟨_, rfl⟩
  obtain ⟨D1, hD1⟩ : ∃ d, d = shD (newDisk 8) sl s := ⟨_, rfl⟩
  obtain ⟨D2, hD2⟩ : ∃ d, d = fallenDisk true [] D1 := ⟨_, rfl⟩
  obtain ⟨lk, hlk⟩ : ∃ b, b = (shotAt D2 sl).isSome := ⟨_, rfl⟩
  obtain ⟨ls, hls⟩ : ∃ x, x = (shotAt D2 sl).getD zShot := ⟨_, rfl⟩
  obtain ⟨nk, hnk⟩ : ∃ b, b = newOk D1 := ⟨_, rfl⟩
  obtain ⟨na, hna⟩ : ∃ b, b = newAt D1 := ⟨_, rfl⟩
  obtain ⟨ns, hns⟩ : ∃ x, x = newShot D1 := ⟨_, rfl⟩
  obtain ⟨ok, hok⟩ : ∃ b, b = shotOk s := ⟨_, rfl⟩
  have hyes : ok = true → rk = true ∧ rs = s ∧ wk = true ∧ lk = true ∧ ls = s ∧ nk = true ∧ na = sl ∧ stateOk s.State = true := by
    intro h; rw [hok] at h
    obtain ⟨b1, b2, b3, b4, b5⟩ := back_yes hs01 h
    refine ⟨by rw [hrk]; unfold rsOk; rw [b5]; rfl, by rw [hrs]; unfold rsShot; rw [b5]; rfl, by rw [hwk]; exact b1, by rw [hlk, hD2, hD1, b2]; rfl, by rw [hls, hD2, hD1, b2]; rfl, by rw [hnk, hD1]; exact b3, by rw [hna, hD1]; exact b4, (shotOk_parts h).2.2.1⟩
  have hno : ok = false → rk = false ∧ wk = false ∧ nk = false := by
    intro h; rw [hok] at h
    obtain ⟨b1, b2, b3, b4⟩ := back_no (slot := sl) h
    refine ⟨by rw [hrk]; unfold rsOk; rw [b4]; rfl, by rw [hwk]; exact b1, by rw [hnk, hD1, b2]; exact b3⟩
  have Hhsl := Lib.hid hsl
  have Hhrk := Lib.hid hrk
  have Hhrs := Lib.hid hrs
  have Hhwk := Lib.hid hwk
  have HhD1 := Lib.hid hD1
  have HhD2 := Lib.hid hD2
  have Hhlk := Lib.hid hlk
  have Hhls := Lib.hid hls
  have Hhnk := Lib.hid hnk
  have Hhna := Lib.hid hna
  have Hhns := Lib.hid hns
  have Hhok := Lib.hid hok
  have Hhyes := Lib.hid hyes
  have Hhno := Lib.hid hno
  have Hhs01 := Lib.hid hs01
  have Hhl4 := Lib.hid hl4
  clear hsl hrk hrs hwk hlk hls hnk hna hns hok hyes hno hs01 hl4 hD2 hD1
  go_wp2_with fail
  refine (shotRows_k (gs.ext (by exact extT))).mono ?_
  rintro e w2 ⟨_, rfl, hx2, F0, gr0⟩
  have X2 : Ext w1 w2 := Ext.trans (by exact extT) hx2
  have hz2 := X2.size
  have hy2 := hx2.size; (try simp only [World.size_alloc, World.size_setCell, size_setRow, size_drew] at hy2)
  have KS2 : Blk w2 w1.heap.size 92 #[.int .i64 s.Num, .int .i64 s.State.Index, .int .i64 s.State.Time, .slice a2 n2 k2, .slice a3 n3 k3, .int .i64 s.State.Lease.Holder, .int .i64 s.State.Lease.Epoch, .int .i64 s.State.Lease.Until] := Blk.ext (Blk.cast (by exact blkT) setsT) hx2
  have gs := gs.ext X2
  have E2 : Ext w w2 := E1.trans X2
  clear hx2 X2 E1
  have CS2 := KS2.cell; have FS2 := KS2.frozen; have LS2 := KS2.lt
  have gr := gr0.rd; clear gr0
  go_wp2_with fail
  refine (rowsShot_f (gr.ext (by exact extT)) Hhl4.out).mono ?_
  rintro e w3 ⟨_, rfl, hx3, u, rfl, F1, gu0⟩
  have X3 : Ext w2 w3 := Ext.trans (by exact extT) hx3
  have hz3 := X3.size
  have hy3 := hx3.size; (try simp only [World.size_alloc, World.size_setCell, size_setRow, size_drew] at hy3)
  have KS3 : Blk w3 w1.heap.size 92 #[.int .i64 s.Num, .int .i64 s.State.Index, .int .i64 s.State.Time, .slice a2 n2 k2, .slice a3 n3 k3, .int .i64 s.State.Lease.Holder, .int .i64 s.State.Lease.Epoch, .int .i64 s.State.Lease.Until] := Blk.ext (Blk.cast (by exact blkT) setsT) hx3
  clear KS2
  have gs := gs.ext X3
  have gr := gr.ext X3
  have E3 : Ext w w3 := E2.trans X3
  clear hx3 X3 E2
  clear CS2 FS2 LS2
  have CS3 := KS3.cell; have FS3 := KS3.frozen; have LS3 := KS3.lt
  rw [← Hhrk.out]; rw [← Hhrs.out] at gu0
  have gu := gu0.rd; clear gu0
  clear gr
  obtain ⟨a2u, n2u, k2u, a3u, n3u, k3u, rfl⟩ := gu.shape
  have gs3 := gs; obtain ⟨_, _, es9, gp, gj⟩ := gs3
  injection es9 with es9; simp only [Array.mk.injEq, List.cons.injEq, and_true, true_and] at es9; obtain ⟨e1, e2⟩ := es9; subst e1; subst e2
  go_wp2_with fail
  refine (sShotOk_c _ _ _ _ _ _ _ _ _ _ _ (gp.ext (by exact extT)) (gj.ext (by exact extT))).mono ?_
  rintro e w4 ⟨rfl, hx4⟩
  have X4 : Ext w3 w4 := Ext.trans (by exact extT) hx4
  have hz4 := X4.size
  have hy4 := hx4.size; (try simp only [World.size_alloc, World.size_setCell, size_setRow, size_drew] at hy4)
  have KS4 : Blk w4 w1.heap.size 92 #[.int .i64 s.Num, .int .i64 s.State.Index, .int .i64 s.State.Time, .slice a2 n2 k2, .slice a3 n3 k3, .int .i64 s.State.Lease.Holder, .int .i64 s.State.Lease.Epoch, .int .i64 s.State.Lease.Until] := Blk.ext (Blk.cast (by exact blkT) setsT) hx4
  clear KS3
  have KU4 : Blk w4 w3.heap.size 92 #[.int .i64 rs.Num, .int .i64 rs.State.Index, .int .i64 rs.State.Time, .slice a2u n2u k2u, .slice a3u n3u k3u, .int .i64 rs.State.Lease.Holder, .int .i64 rs.State.Lease.Epoch, .int .i64 rs.State.Lease.Until] := Blk.ext (Blk.cast (by exact blkT) setsT) hx4
  have gs := gs.ext X4
  have gu := gu.ext X4
  have E4 : Ext w w4 := E3.trans X4
  clear hx4 X4 E3
  clear CS3 FS3 LS3
  have CS4 := KS4.cell; have FS4 := KS4.frozen; have LS4 := KS4.lt
  have CU4 := KU4.cell; have FU4 := KU4.frozen; have LU4 := KU4.lt
  have eso : shotOk (⟨s.Num, ⟨s.State.Index, s.State.Time, s.State.Pairs, s.State.Jobs, ⟨s.State.Lease.Holder, s.State.Lease.Epoch, s.State.Lease.Until⟩⟩⟩ : DShot) = ok := Hhok.out.symm
  rw [eso]; clear eso gp gj
  have hrkok : rk = ok := by cases ok; exact (Hhno.out rfl).1; exact (Hhyes.out rfl).1
  subst hrkok
  have hbb : (rk != rk) = false := by simp
  go_wp2_with fail
  rw [← Hhsl.out]
  go_cut [7, 8] (fun cx0 cx1 wx => ∃ (gg : Nat) (a0d : Option Addr) (n0d k0d : Nat) (a1d : Option Addr) (n1d k1d : Nat), cx0 = .pointer (some ⟨gg, 0, none⟩) ∧ cx1 = .bool wk ∧ Ext w4 wx ∧ w4.heap.size ≤ gg ∧ Blk wx gg 41 #[.slice a0d n0d k0d, .slice a1d n1d k1d] ∧ RdDisk wx (.agg #[.slice a0d n0d k0d, .slice a1d n1d k1d]) D1)
  case first =>
    go_wp2_with fail
    refine wp_region_held_drew (S := fun w' => Ext w4 w') (by kernel_rfl) (by (try dsimp only); exact Ext.drew (Ext.refl _)) (fun hHeld => ?_)
    refine wpAnyH_take (i := 1) (v := ?_) rfl (by kernel_rfl) (by kernel_rfl) (by kernel_rfl) (fun _ _ _ h => h) (Or.inl ⟨by rfl, ?_⟩) (by assumption) ?_
    rotate_left
    focus (intro w hSw; (try dsimp only at hSw); go_simp <;> with_reducible rfl)
    (try simp only [List.getElem_toArray, List.getElem_cons_zero, List.getElem_cons_succ, Act.put, List.setIfInBounds_toArray, List.set_cons_zero, List.set_cons_succ])
    refine wpAnyH_take (i := 2) (v := ?_) rfl (by kernel_rfl) (by kernel_rfl) (by kernel_rfl) (fun _ _ _ h => h) (Or.inl ⟨by rfl, ?_⟩) (by assumption) ?_
    rotate_left
    focus (intro w hSw; (try dsimp only at hSw); have hq := (KS4.ext hSw).cell; have hq2 := (KS4.ext hSw).lt; go_simp <;> with_reducible rfl)
    (try simp only [List.getElem_toArray, List.getElem_cons_zero, List.getElem_cons_succ, Act.put, List.setIfInBounds_toArray, List.set_cons_zero, List.set_cons_succ])
    refine wpAnyH_ready (rs := [0, 7]) (by kernel_rfl) (by simp) ?_
    refine AllReadyH.cons rfl (fun Kz hKz => ?_) (AllReadyH.cons rfl (fun Kz hKz => ?_) AllReadyH.nil)
    · skip
      (try simp only [List.getElem_toArray, List.getElem_cons_zero, List.getElem_cons_succ])
      go_simp
      go_at_call 43
      refine (newShelf_c _).mono ?_
      rintro e w5 ⟨_, rfl, hx5, gn0⟩
      have X5 : Ext w4 w5 := Ext.trans (by exact extT) hx5; have hz5 := X5.size; have hv5 := hx5.size; (try simp only [World.size_alloc, World.size_setCell, size_setRow, size_drew] at hv5)
      have hy5 := hx5
      have gn := gn0.rd; clear gn0
      obtain ⟨a0n, n0n, k0n, a1n, n1n, k1n, rfl⟩ := gn.shape
      clear hx5
      refine hKz.out _ _ (by (try dsimp only); exact extT) (fun hHeld => ?_)
      clear hKz Kz
      (try simp only [List.getElem_toArray, List.getElem_cons_zero, List.getElem_cons_succ, Act.put, List.setIfInBounds_toArray, List.set_cons_zero, List.set_cons_succ])
      refine wpAnyH_ready (rs := [3, 7]) (by kernel_rfl) (by simp) ?_
      refine AllReadyH.cons rfl (fun Kz hKz => ?_) (AllReadyH.cons rfl (fun Kz hKz => ?_) AllReadyH.nil)
      · skip
        (try simp only [List.getElem_toArray, List.getElem_cons_zero, List.getElem_cons_succ])
        go_simp
        go_at_call 42
        refine (shotWrote_k (gn.ext (by exact extT)) (gs.ext (by exact extT)) sl).mono ?_
        rintro e w6 ⟨_, rfl, hx6, vd, rfl, FD, gd⟩
        have X6 : Ext w4 w6 := Ext.trans (by exact extT) hx6; have hz6 := X6.size; have hv6 := hx6.size; (try simp only [World.size_alloc, World.size_setCell, size_setRow, size_drew] at hv6)
        have hy6 := hx6
        rw [← Hhwk.out]; rw [← HhD1.out] at gd
        obtain ⟨a0d, n0d, k0d, a1d, n1d, k1d, rfl⟩ := gd.rd.shape
        clear hx6
        refine hKz.out _ _ (by (try dsimp only); exact extT) (fun hHeld => ?_)
        clear hKz Kz
        (try simp only [List.getElem_toArray, List.getElem_cons_zero, List.getElem_cons_succ, Act.put, List.setIfInBounds_toArray, List.set_cons_zero, List.set_cons_succ])
        refine wpAnyH_take (i := 4) (v := ?_) rfl (by kernel_rfl) (by kernel_rfl) (by kernel_rfl) (fun _ _ _ h => h) (Or.inl ⟨by rfl, ?_⟩) (by assumption) ?_
        rotate_left
        focus (intro w hSw; (try dsimp only at hSw); go_simp <;> with_reducible rfl)
        (try simp only [List.getElem_toArray, List.getElem_cons_zero, List.getElem_cons_succ, Act.put, List.setIfInBounds_toArray, List.set_cons_zero, List.set_cons_succ])
        refine wpAnyH_take (i := 5) (v := ?_) rfl (by kernel_rfl) (by kernel_rfl) (by kernel_rfl) (fun _ _ _ h => h) (Or.inl ⟨by rfl, ?_⟩) (by assumption) ?_
        rotate_left
        focus (intro w hSw; (try dsimp only at hSw); go_simp <;> with_reducible rfl)
        (try simp only [List.getElem_toArray, List.getElem_cons_zero, List.getElem_cons_succ, Act.put, List.setIfInBounds_toArray, List.set_cons_zero, List.set_cons_succ])
        refine wpAnyH_take (i := 6) (v := ?_) rfl (by kernel_rfl) (by kernel_rfl) (by kernel_rfl) (fun _ _ _ h => h) (Or.inl ⟨by rfl, ?_⟩) (by assumption) ?_
        rotate_left
        focus (intro w hSw; (try dsimp only at hSw); go_simp <;> with_reducible rfl)
        (try simp only [List.getElem_toArray, List.getElem_cons_zero, List.getElem_cons_succ, Act.put, List.setIfInBounds_toArray, List.set_cons_zero, List.set_cons_succ])
        refine wpAnyH_ready (rs := [7]) (by kernel_rfl) (by simp) ?_
        refine AllReadyH.cons rfl (fun Kz hKz => ?_) AllReadyH.nil
        (try simp only [List.getElem_toArray, List.getElem_cons_zero, List.getElem_cons_succ])
        go_simp
        refine hKz.out _ _ (by (try dsimp only); exact extT) (fun hHeld => ?_)
        clear hKz Kz
        (try simp only [List.getElem_toArray, List.getElem_cons_zero, List.getElem_cons_succ, Act.put, List.setIfInBounds_toArray, List.set_cons_zero, List.set_cons_succ])
        refine wpAnyH_ready (rs := [8]) (by kernel_rfl) (by simp) ?_
        refine AllReadyH.cons rfl (fun Kz hKz => ?_) AllReadyH.nil
        (try simp only [List.getElem_toArray, List.getElem_cons_zero, List.getElem_cons_succ])
        go_simp
        refine hKz.out _ _ (by (try dsimp only); exact extT) (fun hHeld => ?_)
        clear hKz Kz
        (try simp only [List.getElem_toArray, List.getElem_cons_zero, List.getElem_cons_succ, Act.put, List.setIfInBounds_toArray, List.set_cons_zero, List.set_cons_succ])
        refine wpAnyH_ready (rs := [9]) (by kernel_rfl) (by simp) ?_
        refine AllReadyH.cons rfl (fun Kz hKz => ?_) AllReadyH.nil
        (try simp only [List.getElem_toArray, List.getElem_cons_zero, List.getElem_cons_succ])
        go_simp
        refine hKz.out _ _ (by (try dsimp only); exact extT) (fun hHeld => ?_)
        clear hKz Kz
        (try simp only [List.getElem_toArray, List.getElem_cons_zero, List.getElem_cons_succ, Act.put, List.setIfInBounds_toArray, List.set_cons_zero, List.set_cons_succ])
        refine wpAnyH_done (by kernel_rfl) ?_ _
        go_wp2_with fail
        go_meet
        case rel => exact ⟨_, _, _, _, _, _, _, rfl, by first | rfl | trivial, (Ext.trans X6 (by exact extT)), by first | omega | (have := X6.size; omega), Blk.cast (by exact blkT) setsT, RdDisk.ext gd.rd (by exact extT)⟩
      · skip
        (try simp only [List.getElem_toArray, List.getElem_cons_zero, List.getElem_cons_succ])
        go_simp
        refine hKz.out _ _ (by (try dsimp only); exact extT) (fun hHeld => ?_)
        clear hKz Kz
        (try simp only [List.getElem_toArray, List.getElem_cons_zero, List.getElem_cons_succ, Act.put, List.setIfInBounds_toArray, List.set_cons_zero, List.set_cons_succ])
        refine wpAnyH_ready (rs := [3]) (by kernel_rfl) (by simp) ?_
        refine AllReadyH.cons rfl (fun Kz hKz => ?_) AllReadyH.nil
        (try simp only [List.getElem_toArray, List.getElem_cons_zero, List.getElem_cons_succ])
        go_simp
        go_at_call 42
        refine (shotWrote_k (gn.ext (by exact extT)) (gs.ext (by exact extT)) sl).mono ?_
        rintro e w6 ⟨_, rfl, hx6, vd, rfl, FD, gd⟩
        have X6 : Ext w4 w6 := Ext.trans (by exact extT) hx6; have hz6 := X6.size; have hv6 := hx6.size; (try simp only [World.size_alloc, World.size_setCell, size_setRow, size_drew] at hv6)
        have hy6 := hx6
        rw [← Hhwk.out]; rw [← HhD1.out] at gd
        obtain ⟨a0d, n0d, k0d, a1d, n1d, k1d, rfl⟩ := gd.rd.shape
        clear hx6
        have KU6 : Blk w6 w5.heap.size 41 #[.slice none 0 0, .slice none 0 0] := Blk.ext (by exact blkT) hy6; have CU := KU6.cell; have FU := KU6.frozen; have LU := KU6.lt
        refine hKz.out _ _ (by (try dsimp only); exact extT) (fun hHeld => ?_)
        clear hKz Kz
        (try simp only [List.getElem_toArray, List.getElem_cons_zero, List.getElem_cons_succ, Act.put, List.setIfInBounds_toArray, List.set_cons_zero, List.set_cons_succ])
        refine wpAnyH_take (i := 4) (v := ?_) rfl (by kernel_rfl) (by kernel_rfl) (by kernel_rfl) (fun _ _ _ h => h) (Or.inl ⟨by rfl, ?_⟩) (by assumption) ?_
        rotate_left
        focus (intro w hSw; (try dsimp only at hSw); go_simp <;> with_reducible rfl)
        (try simp only [List.getElem_toArray, List.getElem_cons_zero, List.getElem_cons_succ, Act.put, List.setIfInBounds_toArray, List.set_cons_zero, List.set_cons_succ])
        refine wpAnyH_take (i := 5) (v := ?_) rfl (by kernel_rfl) (by kernel_rfl) (by kernel_rfl) (fun _ _ _ h => h) (Or.inl ⟨by rfl, ?_⟩) (by assumption) ?_
        rotate_left
        focus (intro w hSw; (try dsimp only at hSw); go_simp <;> with_reducible rfl)
        (try simp only [List.getElem_toArray, List.getElem_cons_zero, List.getElem_cons_succ, Act.put, List.setIfInBounds_toArray, List.set_cons_zero, List.set_cons_succ])
        refine wpAnyH_take (i := 6) (v := ?_) rfl (by kernel_rfl) (by kernel_rfl) (by kernel_rfl) (fun _ _ _ h => h) (Or.inl ⟨by rfl, ?_⟩) (by assumption) ?_
        rotate_left
        focus (intro w hSw; (try dsimp only at hSw); go_simp <;> with_reducible rfl)
        (try simp only [List.getElem_toArray, List.getElem_cons_zero, List.getElem_cons_succ, Act.put, List.setIfInBounds_toArray, List.set_cons_zero, List.set_cons_succ])
        refine wpAnyH_ready (rs := [8]) (by kernel_rfl) (by simp) ?_
        refine AllReadyH.cons rfl (fun Kz hKz => ?_) AllReadyH.nil
        (try simp only [List.getElem_toArray, List.getElem_cons_zero, List.getElem_cons_succ])
        go_simp
        refine hKz.out _ _ (by (try dsimp only); exact extT) (fun hHeld => ?_)
        clear hKz Kz
        (try simp only [List.getElem_toArray, List.getElem_cons_zero, List.getElem_cons_succ, Act.put, List.setIfInBounds_toArray, List.set_cons_zero, List.set_cons_succ])
        refine wpAnyH_ready (rs := [9]) (by kernel_rfl) (by simp) ?_
        refine AllReadyH.cons rfl (fun Kz hKz => ?_) AllReadyH.nil
        (try simp only [List.getElem_toArray, List.getElem_cons_zero, List.getElem_cons_succ])
        go_simp
        refine hKz.out _ _ (by (try dsimp only); exact extT) (fun hHeld => ?_)
        clear hKz Kz
        (try simp only [List.getElem_toArray, List.getElem_cons_zero, List.getElem_cons_succ, Act.put, List.setIfInBounds_toArray, List.set_cons_zero, List.set_cons_succ])
        refine wpAnyH_done (by kernel_rfl) ?_ _
        go_wp2_with fail
        go_meet
        case rel => exact ⟨_, _, _, _, _, _, _, rfl, by first | rfl | trivial, Ext.setCell (Ext.setCell X6 (by first | omega | (have := X6.size; omega)) _) (by first | omega | (have := X6.size; omega)) _, by first | omega | (have := X6.size; omega), Blk.cast (by exact blkT) setsT, ((gd.box KU6 0 _).box (Blk.set_ KU6 0 _) 1 _).rd⟩
    · skip
      (try simp only [List.getElem_toArray, List.getElem_cons_zero, List.getElem_cons_succ])
      go_simp
      refine hKz.out _ _ (by (try dsimp only); exact extT) (fun hHeld => ?_)
      clear hKz Kz
      (try simp only [List.getElem_toArray, List.getElem_cons_zero, List.getElem_cons_succ, Act.put, List.setIfInBounds_toArray, List.set_cons_zero, List.set_cons_succ])
      refine wpAnyH_ready (rs := [0]) (by kernel_rfl) (by simp) ?_
      refine AllReadyH.cons rfl (fun Kz hKz => ?_) AllReadyH.nil
      (try simp only [List.getElem_toArray, List.getElem_cons_zero, List.getElem_cons_succ])
      go_simp
      go_at_call 43
      refine (newShelf_c _).mono ?_
      rintro e w5 ⟨_, rfl, hx5, gn0⟩
      have X5 : Ext w4 w5 := Ext.trans (by exact extT) hx5; have hz5 := X5.size; have hv5 := hx5.size; (try simp only [World.size_alloc, World.size_setCell, size_setRow, size_drew] at hv5)
      have hy5 := hx5
      have gn := gn0.rd; clear gn0
      obtain ⟨a0n, n0n, k0n, a1n, n1n, k1n, rfl⟩ := gn.shape
      clear hx5
      have KU5 : Blk w5 w4.heap.size 41 #[.slice none 0 0, .slice none 0 0] := Blk.ext (by exact blkT) hy5; have CU := KU5.cell; have FU := KU5.frozen; have LU := KU5.lt
      refine hKz.out _ _ (by (try dsimp only); exact extT) (fun hHeld => ?_)
      clear hKz Kz
      (try simp only [List.getElem_toArray, List.getElem_cons_zero, List.getElem_cons_succ, Act.put, List.setIfInBounds_toArray, List.set_cons_zero, List.set_cons_succ])
      refine wpAnyH_ready (rs := [3]) (by kernel_rfl) (by simp) ?_
      refine AllReadyH.cons rfl (fun Kz hKz => ?_) AllReadyH.nil
      (try simp only [List.getElem_toArray, List.getElem_cons_zero, List.getElem_cons_succ])
      go_simp
      go_at_call 42
      refine (shotWrote_k (gn.ext (by exact extT)) (gs.ext (by exact extT)) sl).mono ?_
      rintro e w6 ⟨_, rfl, hx6, vd, rfl, FD, gd⟩
      have X6 : Ext w4 w6 := Ext.trans (by exact extT) hx6; have hz6 := X6.size; have hv6 := hx6.size; (try simp only [World.size_alloc, World.size_setCell, size_setRow, size_drew] at hv6)
      have hy6 := hx6
      rw [← Hhwk.out]; rw [← HhD1.out] at gd
      obtain ⟨a0d, n0d, k0d, a1d, n1d, k1d, rfl⟩ := gd.rd.shape
      clear hx6
      have KU6 : Blk w6 w4.heap.size 41 #[.slice none 0 0, .slice none 0 0] := Blk.ext (by exact blkT) hy6; have CU := KU6.cell; have FU := KU6.frozen; have LU := KU6.lt
      refine hKz.out _ _ (by (try dsimp only); exact extT) (fun hHeld => ?_)
      clear hKz Kz
      (try simp only [List.getElem_toArray, List.getElem_cons_zero, List.getElem_cons_succ, Act.put, List.setIfInBounds_toArray, List.set_cons_zero, List.set_cons_succ])
      refine wpAnyH_take (i := 4) (v := ?_) rfl (by kernel_rfl) (by kernel_rfl) (by kernel_rfl) (fun _ _ _ h => h) (Or.inl ⟨by rfl, ?_⟩) (by assumption) ?_
      rotate_left
      focus (intro w hSw; (try dsimp only at hSw); go_simp <;> with_reducible rfl)
      (try simp only [List.getElem_toArray, List.getElem_cons_zero, List.getElem_cons_succ, Act.put, List.setIfInBounds_toArray, List.set_cons_zero, List.set_cons_succ])
      refine wpAnyH_take (i := 5) (v := ?_) rfl (by kernel_rfl) (by kernel_rfl) (by kernel_rfl) (fun _ _ _ h => h) (Or.inl ⟨by rfl, ?_⟩) (by assumption) ?_
      rotate_left
      focus (intro w hSw; (try dsimp only at hSw); go_simp <;> with_reducible rfl)
      (try simp only [List.getElem_toArray, List.getElem_cons_zero, List.getElem_cons_succ, Act.put, List.setIfInBounds_toArray, List.set_cons_zero, List.set_cons_succ])
      refine wpAnyH_take (i := 6) (v := ?_) rfl (by kernel_rfl) (by kernel_rfl) (by kernel_rfl) (fun _ _ _ h => h) (Or.inl ⟨by rfl, ?_⟩) (by assumption) ?_
      rotate_left
      focus (intro w hSw; (try dsimp only at hSw); go_simp <;> with_reducible rfl)
      (try simp only [List.getElem_toArray, List.getElem_cons_zero, List.getElem_cons_succ, Act.put, List.setIfInBounds_toArray, List.set_cons_zero, List.set_cons_succ])
      refine wpAnyH_ready (rs := [8]) (by kernel_rfl) (by simp) ?_
      refine AllReadyH.cons rfl (fun Kz hKz => ?_) AllReadyH.nil
      (try simp only [List.getElem_toArray, List.getElem_cons_zero, List.getElem_cons_succ])
      go_simp
      refine hKz.out _ _ (by (try dsimp only); exact extT) (fun hHeld => ?_)
      clear hKz Kz
      (try simp only [List.getElem_toArray, List.getElem_cons_zero, List.getElem_cons_succ, Act.put, List.setIfInBounds_toArray, List.set_cons_zero, List.set_cons_succ])
      refine wpAnyH_ready (rs := [9]) (by kernel_rfl) (by simp) ?_
      refine AllReadyH.cons rfl (fun Kz hKz => ?_) AllReadyH.nil
      (try simp only [List.getElem_toArray, List.getElem_cons_zero, List.getElem_cons_succ])
      go_simp
      refine hKz.out _ _ (by (try dsimp only); exact extT) (fun hHeld => ?_)
      clear hKz Kz
      (try simp only [List.getElem_toArray, List.getElem_cons_zero, List.getElem_cons_succ, Act.put, List.setIfInBounds_toArray, List.set_cons_zero, List.set_cons_succ])
      refine wpAnyH_done (by kernel_rfl) ?_ _
      go_wp2_with fail
      go_meet
      case rel => exact ⟨_, _, _, _, _, _, _, rfl, by first | rfl | trivial, Ext.setCell (Ext.setCell X6 (by first | omega | (have := X6.size; omega)) _) (by first | omega | (have := X6.size; omega)) _, by first | omega | (have := X6.size; omega), Blk.cast (by exact blkT) setsT, ((gd.box KU6 0 _).box (Blk.set_ KU6 0 _) 1 _).rd⟩
  case rest =>
    revert wc; intro w13 hcut
    obtain ⟨gg, a0d, n0d, k0d, a1d, n1d, k1d, rfl, rfl, hx13, hgg, KD13, gd⟩ := hcut
    have X13 := hx13
    have KS13 : Blk w13 w1.heap.size 92 #[.int .i64 s.Num, .int .i64 s.State.Index, .int .i64 s.State.Time, .slice a2 n2 k2, .slice a3 n3 k3, .int .i64 s.State.Lease.Holder, .int .i64 s.State.Lease.Epoch, .int .i64 s.State.Lease.Until] := Blk.ext KS4 X13
    have KU13 : Blk w13 w3.heap.size 92 #[.int .i64 rs.Num, .int .i64 rs.State.Index, .int .i64 rs.State.Time, .slice a2u n2u k2u, .slice a3u n3u k3u, .int .i64 rs.State.Lease.Holder, .int .i64 rs.State.Lease.Epoch, .int .i64 rs.State.Lease.Until] := Blk.ext KU4 X13
    have gs := gs.ext X13
    have gu := gu.ext X13
    have E13 : Ext w w13 := E4.trans X13
    have hz13 := X13.size
    clear hx13 X13
    clear CS4 FS4 LS4 CU4 FU4 LU4
    have CS13 := KS13.cell; have FS13 := KS13.frozen; have LS13 := KS13.lt
    have CU13 := KU13.cell; have FU13 := KU13.frozen; have LU13 := KU13.lt
    have CD13 := KD13.cell; have FD13 := KD13.frozen; have LD13 := KD13.lt
    obtain ⟨gd0, gd1⟩ := gd.get
    go_wp2_with fail
    refine (synced_c _ _ _ _ _ (gd0.ext (by exact extT)) (gd1.ext (by exact extT))).mono ?_
    rintro e w14 ⟨_, rfl, hx14, gy0⟩
    have X14 : Ext w13 w14 := Ext.trans (by exact extT) hx14
    have hz14 := X14.size
    have hy14 := hx14.size; (try simp only [World.size_alloc, World.size_setCell, size_setRow, size_drew] at hy14)
    have KS14 : Blk w14 w1.heap.size 92 #[.int .i64 s.Num, .int .i64 s.State.Index, .int .i64 s.State.Time, .slice a2 n2 k2, .slice a3 n3 k3, .int .i64 s.State.Lease.Holder, .int .i64 s.State.Lease.Epoch, .int .i64 s.State.Lease.Until] := Blk.ext (Blk.cast (by exact blkT) setsT) hx14
    clear KS13
    have KU14 : Blk w14 w3.heap.size 92 #[.int .i64 rs.Num, .int .i64 rs.State.Index, .int .i64 rs.State.Time, .slice a2u n2u k2u, .slice a3u n3u k3u, .int .i64 rs.State.Lease.Holder, .int .i64 rs.State.Lease.Epoch, .int .i64 rs.State.Lease.Until] := Blk.ext (Blk.cast (by exact blkT) setsT) hx14
    clear KU13
    have KD14 : Blk w14 gg 41 #[.slice a0d n0d k0d, .slice a1d n1d k1d] := Blk.ext (Blk.cast (by exact blkT) setsT) hx14
    clear KD13
    have gs := gs.ext X14
    have gu := gu.ext X14
    have gd := gd.ext X14
    have gd0 := gd0.ext X14
    have gd1 := gd1.ext X14
    have E14 : Ext w w14 := E13.trans X14
    clear hx14 X14 E13
    clear CS13 FS13 LS13 CU13 FU13 LU13 CD13 FD13 LD13
    have CS14 := KS14.cell; have FS14 := KS14.frozen; have LS14 := KS14.lt
    have CU14 := KU14.cell; have FU14 := KU14.frozen; have LU14 := KU14.lt
    have CD14 := KD14.cell; have FD14 := KD14.frozen; have LD14 := KD14.lt
    have gy := gy0.rd; rw [← HhD2.out] at gy
    clear gy0 gd0 gd1
    go_wp2_with fail
    refine (shotAt_k (gy.ext (by exact extT)) sl).mono ?_
    rintro e w15 ⟨_, rfl, hx15, u2, rfl, F2, gl0⟩
    have X15 : Ext w14 w15 := Ext.trans (by exact extT) hx15
    have hz15 := X15.size
    have hy15 := hx15.size; (try simp only [World.size_alloc, World.size_setCell, size_setRow, size_drew] at hy15)
    have KS15 : Blk w15 w1.heap.size 92 #[.int .i64 s.Num, .int .i64 s.State.Index, .int .i64 s.State.Time, .slice a2 n2 k2, .slice a3 n3 k3, .int .i64 s.State.Lease.Holder, .int .i64 s.State.Lease.Epoch, .int .i64 s.State.Lease.Until] := Blk.ext (Blk.cast (by exact blkT) setsT) hx15
    clear KS14
    have KU15 : Blk w15 w3.heap.size 92 #[.int .i64 rs.Num, .int .i64 rs.State.Index, .int .i64 rs.State.Time, .slice a2u n2u k2u, .slice a3u n3u k3u, .int .i64 rs.State.Lease.Holder, .int .i64 rs.State.Lease.Epoch, .int .i64 rs.State.Lease.Until] := Blk.ext (Blk.cast (by exact blkT) setsT) hx15
    clear KU14
    have KD15 : Blk w15 gg 41 #[.slice a0d n0d k0d, .slice a1d n1d k1d] := Blk.ext (Blk.cast (by exact blkT) setsT) hx15
    clear KD14
    have gs := gs.ext X15
    have gu := gu.ext X15
    have gd := gd.ext X15
    have gy := gy.ext X15
    have E15 : Ext w w15 := E14.trans X15
    clear hx15 X15 E14
    clear CS14 FS14 LS14 CU14 FU14 LU14 CD14 FD14 LD14
    have CS15 := KS15.cell; have FS15 := KS15.frozen; have LS15 := KS15.lt
    have CU15 := KU15.cell; have FU15 := KU15.frozen; have LU15 := KU15.lt
    have CD15 := KD15.cell; have FD15 := KD15.frozen; have LD15 := KD15.lt
    rw [← Hhlk.out]; rw [← Hhls.out] at gl0
    have gl := gl0.rd; clear gl0 gy
    obtain ⟨a2l, n2l, k2l, a3l, n3l, k3l, rfl⟩ := gl.shape
    go_wp2_with fail
    refine (newestShot_k (gd.ext (by exact extT))).mono ?_
    rintro e w16 ⟨_, rfl, hx16, u3, rfl, F3, gw0⟩
    have X16 : Ext w15 w16 := Ext.trans (by exact extT) hx16
    have hz16 := X16.size
    have hy16 := hx16.size; (try simp only [World.size_alloc, World.size_setCell, size_setRow, size_drew] at hy16)
    have KS16 : Blk w16 w1.heap.size 92 #[.int .i64 s.Num, .int .i64 s.State.Index, .int .i64 s.State.Time, .slice a2 n2 k2, .slice a3 n3 k3, .int .i64 s.State.Lease.Holder, .int .i64 s.State.Lease.Epoch, .int .i64 s.State.Lease.Until] := Blk.ext (Blk.cast (by exact blkT) setsT) hx16
    clear KS15
    have KU16 : Blk w16 w3.heap.size 92 #[.int .i64 rs.Num, .int .i64 rs.State.Index, .int .i64 rs.State.Time, .slice a2u n2u k2u, .slice a3u n3u k3u, .int .i64 rs.State.Lease.Holder, .int .i64 rs.State.Lease.Epoch, .int .i64 rs.State.Lease.Until] := Blk.ext (Blk.cast (by exact blkT) setsT) hx16
    clear KU15
    have KD16 : Blk w16 gg 41 #[.slice a0d n0d k0d, .slice a1d n1d k1d] := Blk.ext (Blk.cast (by exact blkT) setsT) hx16
    clear KD15
    have KA16 : Blk w16 w15.heap.size 92 #[.int .i64 ls.Num, .int .i64 ls.State.Index, .int .i64 ls.State.Time, .slice a2l n2l k2l, .slice a3l n3l k3l, .int .i64 ls.State.Lease.Holder, .int .i64 ls.State.Lease.Epoch, .int .i64 ls.State.Lease.Until] := Blk.ext (Blk.cast (by exact blkT) setsT) hx16
    have gs := gs.ext X16
    have gu := gu.ext X16
    have gd := gd.ext X16
    have gl := gl.ext X16
    have E16 : Ext w w16 := E15.trans X16
    clear hx16 X16 E15
    clear CS15 FS15 LS15 CU15 FU15 LU15 CD15 FD15 LD15
    have CS16 := KS16.cell; have FS16 := KS16.frozen; have LS16 := KS16.lt
    have CU16 := KU16.cell; have FU16 := KU16.frozen; have LU16 := KU16.lt
    have CD16 := KD16.cell; have FD16 := KD16.frozen; have LD16 := KD16.lt
    have CA16 := KA16.cell; have FA16 := KA16.frozen; have LA16 := KA16.lt
    rw [← Hhnk.out, ← Hhna.out]; rw [← Hhns.out] at gw0
    have gw := gw0.rd; clear gw0
    obtain ⟨a2w, n2w, k2w, a3w, n3w, k3w, rfl⟩ := gw.shape
    cases rk
    · skip
      obtain ⟨_, rfl, rfl⟩ := Hhno.out rfl
      go_wp2_with fail
      go_ret
      exact ⟨by first | rfl | (simp [*]; done), by exact extT⟩
    · skip
      obtain ⟨_, e1, e2, e3, e4, e5, e6, hst⟩ := Hhyes.out rfl
      subst e1; subst e2; subst e3; subst e4; subst e5; subst e6
      have en1 : (ls.Num == ls.Num) = true := by simp
      have en2 : (na == na) = true := by simp
      have gss : RdState _ _ ls.State := gs.state; have gus : RdState _ _ ls.State := gu.state; have gls : RdState _ _ ls.State := gl.state
      go_wp2_with fail
      refine (sSameState_k (gus.ext (by exact extT)) (gss.ext (by exact extT)) hst).mono ?_
      rintro e w17 ⟨rfl, hx17⟩
      have X17 : Ext w16 w17 := Ext.trans (by exact extT) hx17
      have hz17 := X17.size
      have hy17 := hx17.size; (try simp only [World.size_alloc, World.size_setCell, size_setRow, size_drew] at hy17)
      have KS17 : Blk w17 w1.heap.size 92 #[.int .i64 ls.Num, .int .i64 ls.State.Index, .int .i64 ls.State.Time, .slice a2 n2 k2, .slice a3 n3 k3, .int .i64 ls.State.Lease.Holder, .int .i64 ls.State.Lease.Epoch, .int .i64 ls.State.Lease.Until] := Blk.ext (Blk.cast (by exact blkT) setsT) hx17
      clear KS16
      have KU17 : Blk w17 w3.heap.size 92 #[.int .i64 ls.Num, .int .i64 ls.State.Index, .int .i64 ls.State.Time, .slice a2u n2u k2u, .slice a3u n3u k3u, .int .i64 ls.State.Lease.Holder, .int .i64 ls.State.Lease.Epoch, .int .i64 ls.State.Lease.Until] := Blk.ext (Blk.cast (by exact blkT) setsT) hx17
      clear KU16
      have KD17 : Blk w17 gg 41 #[.slice a0d n0d k0d, .slice a1d n1d k1d] := Blk.ext (Blk.cast (by exact blkT) setsT) hx17
      clear KD16
      have KA17 : Blk w17 w15.heap.size 92 #[.int .i64 ls.Num, .int .i64 ls.State.Index, .int .i64 ls.State.Time, .slice a2l n2l k2l, .slice a3l n3l k3l, .int .i64 ls.State.Lease.Holder, .int .i64 ls.State.Lease.Epoch, .int .i64 ls.State.Lease.Until] := Blk.ext (Blk.cast (by exact blkT) setsT) hx17
      clear KA16
      have gs := gs.ext X17
      have gu := gu.ext X17
      have gd := gd.ext X17
      have gl := gl.ext X17
      have gss := gss.ext X17
      have gus := gus.ext X17
      have gls := gls.ext X17
      have E17 : Ext w w17 := E16.trans X17
      clear hx17 X17 E16
      clear CS16 FS16 LS16 CU16 FU16 LU16 CD16 FD16 LD16 CA16 FA16 LA16
      have CS17 := KS17.cell; have FS17 := KS17.frozen; have LS17 := KS17.lt
      have CU17 := KU17.cell; have FU17 := KU17.frozen; have LU17 := KU17.lt
      have CD17 := KD17.cell; have FD17 := KD17.frozen; have LD17 := KD17.lt
      have CA17 := KA17.cell; have FA17 := KA17.frozen; have LA17 := KA17.lt
      go_wp2_with fail
      refine (sSameState_k (gls.ext (by exact extT)) (gss.ext (by exact extT)) hst).mono ?_
      rintro e w18 ⟨rfl, hx18⟩
      have X18 : Ext w17 w18 := Ext.trans (by exact extT) hx18
      have hz18 := X18.size
      have hy18 := hx18.size; (try simp only [World.size_alloc, World.size_setCell, size_setRow, size_drew] at hy18)
      have KS18 : Blk w18 w1.heap.size 92 #[.int .i64 ls.Num, .int .i64 ls.State.Index, .int .i64 ls.State.Time, .slice a2 n2 k2, .slice a3 n3 k3, .int .i64 ls.State.Lease.Holder, .int .i64 ls.State.Lease.Epoch, .int .i64 ls.State.Lease.Until] := Blk.ext (Blk.cast (by exact blkT) setsT) hx18
      clear KS17
      have KU18 : Blk w18 w3.heap.size 92 #[.int .i64 ls.Num, .int .i64 ls.State.Index, .int .i64 ls.State.Time, .slice a2u n2u k2u, .slice a3u n3u k3u, .int .i64 ls.State.Lease.Holder, .int .i64 ls.State.Lease.Epoch, .int .i64 ls.State.Lease.Until] := Blk.ext (Blk.cast (by exact blkT) setsT) hx18
      clear KU17
      have KD18 : Blk w18 gg 41 #[.slice a0d n0d k0d, .slice a1d n1d k1d] := Blk.ext (Blk.cast (by exact blkT) setsT) hx18
      clear KD17
      have KA18 : Blk w18 w15.heap.size 92 #[.int .i64 ls.Num, .int .i64 ls.State.Index, .int .i64 ls.State.Time, .slice a2l n2l k2l, .slice a3l n3l k3l, .int .i64 ls.State.Lease.Holder, .int .i64 ls.State.Lease.Epoch, .int .i64 ls.State.Lease.Until] := Blk.ext (Blk.cast (by exact blkT) setsT) hx18
      clear KA17
      have gs := gs.ext X18
      have gu := gu.ext X18
      have gd := gd.ext X18
      have gl := gl.ext X18
      have gss := gss.ext X18
      have gus := gus.ext X18
      have gls := gls.ext X18
      have E18 : Ext w w18 := E17.trans X18
      clear hx18 X18 E17
      clear CS17 FS17 LS17 CU17 FU17 LU17 CD17 FD17 LD17 CA17 FA17 LA17
      have CS18 := KS18.cell; have FS18 := KS18.frozen; have LS18 := KS18.lt
      have CU18 := KU18.cell; have FU18 := KU18.frozen; have LU18 := KU18.lt
      have CD18 := KD18.cell; have FD18 := KD18.frozen; have LD18 := KD18.lt
      have CA18 := KA18.cell; have FA18 := KA18.frozen; have LA18 := KA18.lt
      go_wp2_with fail
      go_ret
      exact ⟨by first | rfl | (simp [*]; done), by exact extT⟩

end Go.Proofs.YtohoemphmghblaaGreat

-- The statement FnShotBack: for every input the law returns true.
namespace Go.Proofs.YtohoemphmghblaaGreat.fnShotBack
open Go.ChangeShapes Go.WideShapes Go.ChangeAt Go.RowKit Go.G8
open Go.Proofs.YtohoemphmghblaaGreat.facts (b2)

set_option maxRecDepth 100000 in
theorem lifted (os : Os) (started : os.Started) (H : Type) (enc : TypeId × Value → H) :
    ReturnsInHanded {} Tryz.checked os 7 .any (Rows.fnShotBackSpec.pre6 enc Tryz.prog Tryz.f7 Rows.fnShotBackRow.domain false) (Rows.fnShotBackSpec.post enc Tryz.prog Tryz.f7 false true false false) := by
  refine returnsInHanded_of_change (C := Tryz.checked) own started (by kernel_rfl) Tryz.func7
    (ChangeSpec.witness6 (enc := enc) (C := Tryz.checked) false ⟨#[], #[.slice none 0 0], []⟩ 8 (by kernel_rfl) (by kernel_rfl) (by kernel_rfl) (by kernel_rfl)) ?_
  intro W base args ds gs before hval0 hW _ _
  have hval : ∀ (j : Nat) t v, Tryz.f7.params[j]? = some t → args[j]? = some v → Value.okWide Tryz.prog W .any base t v := hval0
  have hW' := hW
  obtain ⟨p, q, hA0, hV, rfl, hfz, hnd⟩ := hW
  have hA : DataW.TrodAll enc Tryz.prog W 0 (fun _ => true) true Tryz.f7.params.toList args.toList ds p := hA0
  rw [Tryz.params7] at hA hval
  obtain ⟨v0, vs0, d0, ds0, p0, q0, hargs, rfl, rfl, h0, r0⟩ := trodAll_cons hA
  obtain ⟨rfl, rfl, rfl⟩ := trodAll_nil r0
  obtain rfl : args = #[v0] := by cases args; simp_all
  obtain ⟨rfl, rfl⟩ := trodVars_none hV
  have k0 := h0
  have lt0 : ∀ x ∈ p0, x.block < W.heap.size := by obtain ⟨m, hm⟩ := k0; exact DataW.trod_lt m _ _ _ hm
  obtain ⟨sa0, sn0, sc0, rfl⟩ := okWide_slice Tryz.underlying60 (hval 0 60 v0 rfl rfl)
  obtain ⟨m0, hm0⟩ := h0
  obtain ⟨s0, e0, g0⟩ := rd_Bytes hm0
  simp [Value.cells] at e0
  subst e0
  clear hA0 hval0
  refine (law_ShotBack W _ g0).mono fun e W' ⟨he, bel0⟩ => ?_
  have bel : Below W.heap.size W W' := bel0
  subst he
  exact ⟨_, rfl, _, _, _, [], _, [], hW', trodAll_mk1 (shut_bool Tryz.underlying4 _), (trodAll_cons_mk (Below.trod laidOut (by kernel_rfl) (of_decide_eq_true (by kernel_rfl)) k0 bel lt0) trodAll_mk0), rfl, bel.frame _, fun h => by cases h⟩

theorem k0 : (Rows.fnShotBackRow.wf (OpenSpec.ofChange Rows.fnShotBackSpec)) = true := by kernel_rfl
theorem k1 : (laidOutB Tryz.checked.prog) = true := facts.k1
theorem k2 : (mapsRowed Tryz.checked.prog) = true := facts.k2
theorem k3 : (Tryz.f7.params.all (Tryz.checked.prog.readableRec ·)) = true := by kernel_rfl
theorem k4 : (namedTie Tryz.checked.prog Rows.fnShotBackRow.named Rows.fnShotBackSpec.vars) = true := by kernel_rfl
theorem k5 : ((Rows.fnShotBackRow.stops == [])) = true := by kernel_rfl
theorem k6 : ((Tryz.checked.prog.stops == [])) = true := facts.k6
theorem k7 : ((Rows.fnShotBackRow.knobs == [])) = true := by kernel_rfl
theorem k8 : ((Tryz.checked.prog.stopKnobs == [])) = true := facts.k8
theorem k9 : ((Rows.fnShotBackRow.inPlace == Tryz.checked.prog.inPlace 7)) = true := by kernel_rfl
theorem k10 : ((Rows.fnShotBackRow.unfollowed == Tryz.checked.prog.unfollowed 7)) = true := by kernel_rfl
theorem k11 : ((Rows.fnShotBackRow.recurses == Tryz.checked.prog.recurses 7)) = true := by kernel_rfl
theorem k12 : ((Rows.fnShotBackRow.named == Tryz.checked.prog.varsNamed 7)) = true := by kernel_rfl
theorem k13 : ((Rows.fnShotBackRow.maps == (Tryz.f7.params.toList ++ Rows.fnShotBackSpec.plain.varTypes Tryz.checked.prog).any (Tryz.checked.prog.mapsRec ·))) = true := by kernel_rfl
theorem k14 : ((Rows.fnShotBackRow.ifaces == (Tryz.f7.params.toList ++ Rows.fnShotBackSpec.plain.varTypes Tryz.checked.prog).any (Tryz.checked.prog.ifacesRec ·))) = true := by kernel_rfl
theorem k15 : ((Rows.fnShotBackRow.mapsOut == Tryz.checked.prog.mapsAmong Tryz.f7.resultTypes.toList)) = true := by kernel_rfl
theorem k16 : ((Rows.fnShotBackRow.loops == (Tryz.f7.params.toList ++ Rows.fnShotBackSpec.plain.varTypes Tryz.checked.prog).any (Tryz.checked.prog.loopsFrom ·))) = true := by kernel_rfl
theorem k17 : ((Rows.fnShotBackRow.wideKeys == (Tryz.f7.params.toList ++ Rows.fnShotBackSpec.plain.varTypes Tryz.checked.prog ++ Tryz.f7.resultTypes.toList).any (Tryz.checked.prog.wideKeysFrom ·))) = true := by kernel_rfl
theorem k18 : (Rows.fnShotBackSpec.vars.all (Tryz.checked.prog.varReadable ·)) = true := by kernel_rfl
theorem k19 : (Tryz.f7.resultTypes.all (fun t => Tryz.checked.prog.readableRec t && decide (t < Tryz.checked.prog.types.size))) = true := by kernel_rfl
theorem k20 : ((Rows.fnShotBackRow.ifacesOut == Tryz.f7.resultTypes.toList.any (Tryz.checked.prog.ifacesRec ·))) = true := by kernel_rfl
theorem k21 : ((Rows.fnShotBackRow.loopsOut == Tryz.f7.resultTypes.toList.any (Tryz.checked.prog.loopsFrom ·))) = true := by kernel_rfl
theorem k22 : ((Rows.fnShotBackRow.plainKeys == Tryz.checked.prog.plainKeys)) = true := facts.k22
theorem k23 : (Rows.fnShotBackRow.shortTexts.isNone) = true := by kernel_rfl
theorem k24 : (Tryz.checked.prog.stopsHeard) = true := facts.k24
theorem k25 : (Tryz.checked.prog.mayEnter) = true := facts.k25
theorem k26 : ((Rows.fnShotBackRow.lifted == Tryz.checked.prog.liftsFinal)) = true := facts.k26
theorem k27 : ((Tryz.checked.prog.make == some Rows.fnShotBackRow.make)) = true := facts.k27
theorem k28 : ((Rows.fnShotBackRow.kinds == (if Rows.fnShotBackRow.domain.isEmpty then [] else Tryz.f7.params.toList.map fun t => match Tryz.checked.prog.underlying t with | some (.int k) => some k | _ => none))) = true := by kernel_rfl
theorem k29 : ((Rows.fnShotBackRow.pinned == Rows.fnShotBackRow.pinnedBy)) = true := by kernel_rfl
theorem k30 : ((Rows.fnShotBackRow.veiled == (Tryz.f7.params.toList ++ Rows.fnShotBackSpec.plain.varTypes Tryz.checked.prog ++ Tryz.f7.resultTypes.toList).any (Tryz.checked.prog.veiledRec ·))) = true := by kernel_rfl
theorem k31 : (Rows.fnShotBackRow.veiledFits Tryz.checked.prog Tryz.f7.params.toList (Tryz.f7.params.toList ++ Rows.fnShotBackSpec.plain.varTypes Tryz.checked.prog ++ Tryz.f7.resultTypes.toList)) = true := by kernel_rfl
set_option maxRecDepth 100000 in
theorem closed : joinedFacts Tryz.checked.prog 7 Tryz.f7 Rows.fnShotBackSpec Rows.fnShotBackRow = true := by
  unfold joinedFacts
  exact (b2 (b2 (b2 (b2 (b2 (b2 (b2 (b2 (b2 (b2 (b2 (b2 (b2 (b2 (b2 (b2 (b2 (b2 (b2 (b2 (b2 (b2 (b2 (b2 (b2 (b2 (b2 (b2 (b2 (b2 (b2 k0 k1) k2) k3) k4) k5) k6) k7) k8) k9) k10) k11) k12) k13) k14) k15) k16) k17) k18) k19) k20) k21) k22) k23) k24) k25) k26) k27) k28) k29) k30) k31)

theorem proved : Rows.FnShotBackSaid :=
  OpenClaim.holds_of_wide 7 Tryz.f7 rfl rfl rfl rfl rfl rfl rfl ⟨rfl, rfl, rfl, rfl, rfl⟩ rfl rfl rfl rfl rfl (by as_aux_lemma => kernel_rfl) Tryz.func7 closed
    (of_decide_eq_true (by as_aux_lemma => kernel_rfl)) (by as_aux_lemma => (unfold Func.isWrapper; rw [if_neg (of_decide_eq_false (by kernel_rfl))]; exact ⟨rfl, rfl⟩))
    (fun os started H enc _ => lifted os started H enc)
end Go.Proofs.YtohoemphmghblaaGreat.fnShotBack
