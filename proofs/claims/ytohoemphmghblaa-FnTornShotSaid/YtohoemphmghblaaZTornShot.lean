/- The statement FnTornShot: the walk and the row. -/
import Derived.Deep.DeepCutAuto
import Derived.Deep.CutBlock
import Derived.Test.YtohoemphmghblaaGx
import Derived.Test.YtohoemphmghblaaGq
import Derived.Test.YtohoemphmghblaaGy
import Derived.Test.YtohoemphmghblaaGm
import Derived.Test.YtohoemphmghblaaGh
import Derived.Test.YtohoemphmghblaaGi
import Derived.Test.YtohoemphmghblaaGl
import Derived.Test.YtohoemphmghblaaGb
import Derived.Test.YtohoemphmghblaaGc
-- The statement's walk: FnTornShot.
set_option linter.unusedSimpArgs false
set_option linter.unusedVariables false
namespace Go.Proofs.Ytohoemphmghblaa
open Go.RowKit Go.G8

theorem ints4 (w : World) (e : TypeId) (f0 f1 f2 f3 : Int) : Ints 1 (w.alloc (.cells #[.int .i64 f0, .int .i64 f1, .int .i64 f2, .int .i64 f3] e)) (.slice (some ⟨w.heap.size, 0, none⟩) 4 4) [f0, f1, f2, f3] := by
  have : OwnI 0 e 1 (w.alloc (.cells #[.int .i64 f0, .int .i64 f1, .int .i64 f2, .int .i64 f3] e)) (.slice (some ⟨w.heap.size, 0, none⟩) 4 4) [f0, f1, f2, f3] := Own.of_blk (cap := 4) (Blk.new _ _ _) (Nat.zero_le _) rfl rfl (Nat.le_refl _) (by decide) (by
    intro j hj
    obtain rfl | rfl | rfl | rfl : j = 0 ∨ j = 1 ∨ j = 2 ∨ j = 3 := by omega
    all_goals rfl)
  exact this.ints
theorem RdShot.state {w : World} {s : DShot} {a2 a3 : Option Addr} {n2 k2 n3 k3 : Nat} (h : RdShot w (.agg #[.int .i64 s.Num, .int .i64 s.State.Index, .int .i64 s.State.Time, .slice a2 n2 k2, .slice a3 n3 k3, .int .i64 s.State.Lease.Holder, .int .i64 s.State.Lease.Epoch, .int .i64 s.State.Lease.Until]) s) :
    RdState w (.agg #[.int .i64 s.State.Index, .int .i64 s.State.Time, .slice a2 n2 k2, .slice a3 n3 k3, .int .i64 s.State.Lease.Holder, .int .i64 s.State.Lease.Epoch, .int .i64 s.State.Lease.Until]) s.State := by
  obtain ⟨t2, t3, e, h2, h3⟩ := h
  injection e with e
  simp only [Array.mk.injEq, List.cons.injEq, and_true, true_and] at e
  obtain ⟨e1, e2⟩ := e
  subst e1; subst e2
  exact ⟨_, _, rfl, h2, h3⟩
set_option maxHeartbeats 8000000 in
set_option maxRecDepth 100000 in
theorem law_TornShot (w : World) (v : Value) (h : Bytes w v) : Calls Try.prog 3 #[v] w (RetV w (.bool true)) := by
  obtain ⟨bs, hbs, hbo⟩ := h
  obtain ⟨a, n, k, rfl⟩ := hbs.shape
  have HB : Bytes w (.slice a n k) := ⟨bs, hbs, hbo⟩
  clear hbs hbo
  go_enter Try.func3, Try.ntmps3
  go_wp2_with fail
  refine (big_c _ a n k).mono ?_
  rintro e9 w9 ⟨rfl, rfl⟩
  by_cases hbig : (4096 : Int) < (n : Int)
  · go_wp2_with fail
    go_ret
    exact ⟨rfl, Ext.refl _⟩
  go_wp2_with fail
  refine (roll_c HB 18).mono ?_
  rintro e w1 ⟨_, rfl, hx1, g, rfl, hc1⟩
  obtain ⟨B, hB⟩ : ∃ B, B = w.heap.size := ⟨_, rfl⟩
  rw [← hB] at hc1
  have hg0 := hc1.lt; have hgw : w.heap.size ≤ g := by omega
  have hz1 := hx1.size; have E1 : Upd w w1 [g] := Upd.ofExt hx1 _
  clear hx1 HB
  go_wp2_with fail
  refine (below_c (show Die B _ g from by exact dieT) 24 (by omega)).mono ?_
  rintro e w2 ⟨_, rfl, X2, hc2, x0, rfl, px0, qx0⟩
  have hz2 := X2.size; (try simp only [World.size_alloc, World.size_setCell, size_setRow, size_drew] at hz2)
  have E2 : Upd w w2 [g] := Upd.trans (by exact updT) X2
  clear X2
  obtain ⟨N, hN⟩ : ∃ N : Nat, 4 + x0 = (N : Int) := ⟨(4 + x0).toNat, by omega⟩
  go_wp2_with fail
  refine (w6List_c (show Die B _ g from by exact dieT) N (by omega)).mono ?_
  rintro e w3 ⟨_, rfl, X3, hc3, l, m, Ol3, hl, hfo, hmo⟩
  have hz3 := X3.size; (try simp only [World.size_alloc, World.size_setCell, size_setRow, size_drew] at hz3)
  have E3 : Upd w w3 [g] := Upd.trans (by exact updT) X3
  clear X3
  obtain ⟨a0, n0, c0, rfl⟩ := Ol3.shape
  have hn0 : n0 = l.length := by obtain ⟨_, q, _, e, hl9, _⟩ := Ol3.ints; injection e with _ e _; simp only [List.length_map, length_flEntry] at hl9; omega
  subst hn0
  have hcap : l.length ≤ c0 := by obtain ⟨_, q, _, e, _, hle, _⟩ := Ol3.ints; injection e with _ e1 e2; omega
  by_cases h2 : l.length < 2
  · skip
    have hd2 : decide ((l.length : Int) < 2) = true := by simp; omega
    go_wp2_with fail
    go_ret
    exact ⟨by first | rfl | (simp [*]; done), Upd.toExt (g := g) (by exact updT) hgw⟩
  have hd2 : decide ((l.length : Int) < 2) = false := by simp; omega
  go_wp2_with fail
  refine (below_c (show Die B _ g from by exact dieT) ((l.length : Int) - 1) (by omega)).mono ?_
  rintro e w4 ⟨_, rfl, X4, hc4, x1, rfl, px1, qx1⟩
  have hz4 := X4.size; (try simp only [World.size_alloc, World.size_setCell, size_setRow, size_drew] at hz4)
  have E4 : Upd w w4 [g] := Upd.trans (by exact updT) X4
  have Ol4 : OwnI w2.heap.size 58 9 w4 (.slice a0 l.length c0) (flEntry l) := OwnI.drawn (by exact ownT) X4 (by omega)
  clear X4
  obtain ⟨K, hK⟩ : ∃ K : Nat, 1 + x1 = (K : Int) := ⟨(1 + x1).toNat, by omega⟩
  obtain ⟨sA, hsA⟩ : ∃ s, s = fldD (⟨0, 0, [], [], ⟨0, 0, 0⟩⟩ : DState) (l.take K) := ⟨_, rfl⟩
  obtain ⟨sB, hsB⟩ : ∃ s, s = fldD (⟨0, 0, [], [], ⟨0, 0, 0⟩⟩ : DState) l := ⟨_, rfl⟩
  obtain ⟨hAo, hAi⟩ := fld_take hfo (by omega) (k := K) (by omega)
  rw [← hsA] at hAo hAi
  obtain ⟨hBo, hBi⟩ := fld_take hfo (by omega) (k := l.length) (Nat.le_refl _)
  rw [List.take_length, ← hsB] at hBo hBi
  have HsA := Lib.hid hsA; have HsB := Lib.hid hsB; have HAi := Lib.hid hAi; have HBi := Lib.hid hBi; clear hsA hsB hAi hBi hfo hmo
  have hKl : K ≤ l.length := by omega
  have hK1 : 1 ≤ K := by omega
  have hKc : K ≤ c0 := by omega
  go_upto_region 8 with (fail)
  go_cut [6] (fun cx0 wx => ∃ ga : Nat, ∃ na : Int, ∃ a2 : Option Addr, ∃ n2 : Nat, ∃ k2 : Nat, ∃ a3 : Option Addr, ∃ n3 : Nat, ∃ k3 : Nat, cx0 = .pointer (some ⟨ga, 0, none⟩) ∧ w4.heap.size ≤ ga ∧ (1 ≤ na ∧ na ≤ 3) ∧ (w4.heap.size ≤ wx.heap.size) ∧ Blk wx ga 38 #[.int .i64 na, .int .i64 sA.Index, .int .i64 sA.Time, .slice a2 n2 k2, .slice a3 n3 k3, .int .i64 sA.Lease.Holder, .int .i64 sA.Lease.Epoch, .int .i64 sA.Lease.Until] ∧ OwnI w4.heap.size 111 2 wx (.slice a2 n2 k2) (flPair sA.Pairs) ∧ OwnI w4.heap.size 92 5 wx (.slice a3 n3 k3) (flJob sA.Jobs) ∧ Upd w wx [g] ∧ Die B wx g ∧ OwnI w2.heap.size 58 9 wx (.slice a0 l.length c0) (flEntry l))
  case first =>
    refine wp_region_held_drew (S := fun w' => Upd w w' [g] ∧ Die B w' g) (by kernel_rfl) (by (try dsimp only); exact ⟨(by exact updT), (by exact dieT)⟩) (fun hHeld => ?_)
    refine wpAnyH_take (i := 0) (v := ?_) rfl (by kernel_rfl) (by kernel_rfl) (by kernel_rfl) (fun _ _ _ h => h) (Or.inl ⟨by rfl, ?_⟩) (by assumption) ?_
    rotate_left
    focus (intro w hSw; (try dsimp only at hSw); go_simp <;> with_reducible rfl)
    (try simp only [List.getElem_toArray, List.getElem_cons_zero, List.getElem_cons_succ, Act.put, List.setIfInBounds_toArray, List.set_cons_zero, List.set_cons_succ])
    refine wpAnyH_take (i := 3) (v := ?_) rfl (by kernel_rfl) (by kernel_rfl) (by kernel_rfl) (fun _ _ _ h => h) (Or.inl ⟨by rfl, ?_⟩) (by assumption) ?_
    rotate_left
    focus (intro w hSw; (try dsimp only at hSw); go_simp <;> with_reducible rfl)
    (try simp only [List.getElem_toArray, List.getElem_cons_zero, List.getElem_cons_succ, Act.put, List.setIfInBounds_toArray, List.set_cons_zero, List.set_cons_succ])
    refine wpAnyH_take (i := 4) (v := ?_) rfl (by kernel_rfl) (by kernel_rfl) (by kernel_rfl) (fun _ _ _ h => h) (Or.inl ⟨by rfl, ?_⟩) (by assumption) ?_
    rotate_left
    focus (intro w hSw; (try dsimp only at hSw); go_simp <;> with_reducible rfl)
    (try simp only [List.getElem_toArray, List.getElem_cons_zero, List.getElem_cons_succ, Act.put, List.setIfInBounds_toArray, List.set_cons_zero, List.set_cons_succ])
    refine wpAnyH_take (i := 5) (v := ?_) rfl (by kernel_rfl) (by kernel_rfl) (by kernel_rfl) (fun _ _ _ h => h) (Or.inl ⟨by rfl, ?_⟩) (by assumption) ?_
    rotate_left
    focus (intro w hSw; (try dsimp only at hSw); go_simp <;> with_reducible rfl)
    (try simp only [List.getElem_toArray, List.getElem_cons_zero, List.getElem_cons_succ, Act.put, List.setIfInBounds_toArray, List.set_cons_zero, List.set_cons_succ])
    refine wpAnyH_ready (rs := [1, 8]) (by kernel_rfl) (by simp) ?_
    refine AllReadyH.cons rfl (fun Kz hKz => ?_) (AllReadyH.cons rfl (fun Kz hKz => ?_) AllReadyH.nil)
    · skip
      (try simp only [List.getElem_toArray, List.getElem_cons_zero, List.getElem_cons_succ])
      go_simp
      go_at_call 7
      refine (below_c (show Die B _ g from by exact dieT) 3 (by omega)).mono ?_
      rintro e w5 ⟨_, rfl, X5, hc5, y, rfl, py, qy⟩
      have hz5 := X5.size; (try simp only [World.size_alloc, World.size_setCell, size_setRow, size_drew] at hz5)
      have E5 : Upd w w5 [g] := Upd.trans (by exact updT) X5
      have Ol5 : OwnI w2.heap.size 58 9 w5 (.slice a0 l.length c0) (flEntry l) := OwnI.drawn (by first | (with_reducible exact Ol4) | (exact ownT)) X5 (by omega)
      clear X5
      have hw8 : IntKind.i64.wrap (1 + y) = 1 + y := by rw [IntKind.wrap_i64]; omega
      refine hKz.out _ _ (by (try dsimp only); exact ⟨(by exact updT), (by exact dieT)⟩) (fun hHeld => ?_)
      clear hKz Kz
      (try simp only [List.getElem_toArray, List.getElem_cons_zero, List.getElem_cons_succ, Act.put, List.setIfInBounds_toArray, List.set_cons_zero, List.set_cons_succ])
      refine wpAnyH_take (i := 2) (v := ?_) rfl (by kernel_rfl) (by kernel_rfl) (by kernel_rfl) (fun _ _ _ h => h) (Or.inl ⟨by rfl, ?_⟩) (by assumption) ?_
      rotate_left
      focus (intro w hSw; (try dsimp only at hSw); go_simp <;> with_reducible rfl)
      (try simp only [List.getElem_toArray, List.getElem_cons_zero, List.getElem_cons_succ, Act.put, List.setIfInBounds_toArray, List.set_cons_zero, List.set_cons_succ])
      refine wpAnyH_ready (rs := [6, 8]) (by kernel_rfl) (by simp) ?_
      refine AllReadyH.cons rfl (fun Kz hKz => ?_) (AllReadyH.cons rfl (fun Kz hKz => ?_) AllReadyH.nil)
      · skip
        (try simp only [List.getElem_toArray, List.getElem_cons_zero, List.getElem_cons_succ])
        go_simp
        go_at_call 8
        refine (w6State_c (l := l.take K) (by rw [flEntry_take]; exact Ints.takeN (OwnI.ints (show OwnI w2.heap.size 58 9 _ _ (flEntry l) from by exact ownT)) (by omega))).mono ?_
        rintro e w6 ⟨_, rfl, hx6, gs⟩
        have hz6 := hx6.size; (try simp only [World.size_alloc, World.size_setCell, size_setRow, size_drew] at hz6)
        have E6 : Upd w w6 [g] := Upd.ext (by exact updT) hx6
        have hc6 : Die B w6 g := Die.ext (by exact dieT) hx6
        have Ol6 : OwnI w2.heap.size 58 9 w6 (.slice a0 l.length c0) (flEntry l) := OwnI.ext1 (by first | (with_reducible exact Ol5) | (exact ownT)) hx6
        clear hx6
        rw [← HsA.out] at gs
        obtain ⟨t2, t3, rfl, h2, h3⟩ := gs
        obtain ⟨a2, n2, k2, rfl⟩ := h2.shape
        obtain ⟨a3, n3, k3, rfl⟩ := h3.shape
        have Op6 := h2.mono (B' := w4.heap.size) (by first | omega | (simp only [World.size_alloc, size_drew]; omega)); have Oj6 := h3.mono (B' := w4.heap.size) (by first | omega | (simp only [World.size_alloc, size_drew]; omega)); clear h2 h3
        refine hKz.out _ _ (by (try dsimp only); exact ⟨(by exact updT), (by exact dieT)⟩) (fun hHeld => ?_)
        clear hKz Kz
        (try simp only [List.getElem_toArray, List.getElem_cons_zero, List.getElem_cons_succ, Act.put, List.setIfInBounds_toArray, List.set_cons_zero, List.set_cons_succ])
        refine wpAnyH_take (i := 7) (v := ?_) rfl (by kernel_rfl) (by kernel_rfl) (by kernel_rfl) (fun _ _ _ h => h) (Or.inl ⟨by rfl, ?_⟩) (by assumption) ?_
        rotate_left
        focus (intro w hSw; (try dsimp only at hSw); go_simp <;> with_reducible rfl)
        (try simp only [List.getElem_toArray, List.getElem_cons_zero, List.getElem_cons_succ, Act.put, List.setIfInBounds_toArray, List.set_cons_zero, List.set_cons_succ])
        refine wpAnyH_ready (rs := [8]) (by kernel_rfl) (by simp) ?_
        refine AllReadyH.cons rfl (fun Kz hKz => ?_) AllReadyH.nil
        (try simp only [List.getElem_toArray, List.getElem_cons_zero, List.getElem_cons_succ])
        go_simp
        refine hKz.out _ _ (by (try dsimp only); exact ⟨(by exact updT), (by exact dieT)⟩) (fun hHeld => ?_)
        clear hKz Kz
        (try simp only [List.getElem_toArray, List.getElem_cons_zero, List.getElem_cons_succ, Act.put, List.setIfInBounds_toArray, List.set_cons_zero, List.set_cons_succ])
        refine wpAnyH_ready (rs := [9]) (by kernel_rfl) (by simp) ?_
        refine AllReadyH.cons rfl (fun Kz hKz => ?_) AllReadyH.nil
        (try simp only [List.getElem_toArray, List.getElem_cons_zero, List.getElem_cons_succ])
        go_simp
        refine hKz.out _ _ (by (try dsimp only); exact ⟨(by exact updT), (by exact dieT)⟩) (fun hHeld => ?_)
        clear hKz Kz
        (try simp only [List.getElem_toArray, List.getElem_cons_zero, List.getElem_cons_succ, Act.put, List.setIfInBounds_toArray, List.set_cons_zero, List.set_cons_succ])
        refine wpAnyH_done (by kernel_rfl) ?_ _
        go_wp2_with fail
        go_meet
        case rel => exact ⟨_, (1 + y), a2, n2, k2, a3, n3, k3, (by first | rfl | trivial), (by first | omega | (simp only [World.size_alloc, size_drew]; omega)), (by omega), (by first | omega | (simp only [World.size_alloc, World.size_setCell, size_setRow, size_drew]; omega)), (Blk.cast (by exact blkT) setsT), (by first | (exact OwnI.ext1 Op6 (by exact extT)) | (with_reducible exact Op6) | (refine OwnI.drawn Op6 ?_ (by omega); (exact updT); done)), (by first | (exact OwnI.ext1 Oj6 (by exact extT)) | (with_reducible exact Oj6) | (refine OwnI.drawn Oj6 ?_ (by omega); (exact updT); done)), (by exact updT), (by exact dieT), (by first | (exact OwnI.ext1 Ol6 (by exact extT)) | (with_reducible exact Ol6) | (refine OwnI.drawn Ol6 ?_ (by omega); (exact updT); done))⟩
      · skip
        (try simp only [List.getElem_toArray, List.getElem_cons_zero, List.getElem_cons_succ])
        go_simp
        refine hKz.out _ _ (by (try dsimp only); exact ⟨(by exact updT), (by exact dieT)⟩) (fun hHeld => ?_)
        clear hKz Kz
        (try simp only [List.getElem_toArray, List.getElem_cons_zero, List.getElem_cons_succ, Act.put, List.setIfInBounds_toArray, List.set_cons_zero, List.set_cons_succ])
        refine wpAnyH_ready (rs := [6]) (by kernel_rfl) (by simp) ?_
        refine AllReadyH.cons rfl (fun Kz hKz => ?_) AllReadyH.nil
        (try simp only [List.getElem_toArray, List.getElem_cons_zero, List.getElem_cons_succ])
        go_simp
        go_at_call 8
        refine (w6State_c (l := l.take K) (by rw [flEntry_take]; exact Ints.takeN (OwnI.ints (show OwnI w2.heap.size 58 9 _ _ (flEntry l) from by exact ownT)) (by omega))).mono ?_
        rintro e w6 ⟨_, rfl, hx6, gs⟩
        have hz6 := hx6.size; (try simp only [World.size_alloc, World.size_setCell, size_setRow, size_drew] at hz6)
        have E6 : Upd w w6 [g] := Upd.ext (by exact updT) hx6
        have hc6 : Die B w6 g := Die.ext (by exact dieT) hx6
        have KA6 : Blk w6 w5.heap.size 38 #[.int .i64 0, .int .i64 0, .int .i64 0, .slice none 0 0, .slice none 0 0, .int .i64 0, .int .i64 0, .int .i64 0] := Blk.ext (Blk.cast (by exact blkT) (by first | rfl | simp)) hx6
        have Ol6 : OwnI w2.heap.size 58 9 w6 (.slice a0 l.length c0) (flEntry l) := OwnI.ext1 (by first | (with_reducible exact Ol5) | (refine OwnI.updX Ol5 KA5 (by decide) ?_; (exact updT); done) | (exact ownT)) hx6
        clear hx6
        have CA6 := KA6.cell; have FA6 := KA6.frozen; have LA6 := KA6.lt
        rw [← HsA.out] at gs
        obtain ⟨t2, t3, rfl, h2, h3⟩ := gs
        obtain ⟨a2, n2, k2, rfl⟩ := h2.shape
        obtain ⟨a3, n3, k3, rfl⟩ := h3.shape
        have Op6 := h2.mono (B' := w4.heap.size) (by first | omega | (simp only [World.size_alloc, size_drew]; omega)); have Oj6 := h3.mono (B' := w4.heap.size) (by first | omega | (simp only [World.size_alloc, size_drew]; omega)); clear h2 h3
        refine hKz.out _ _ (by (try dsimp only); exact ⟨(by exact updT), (by exact dieT)⟩) (fun hHeld => ?_)
        clear hKz Kz
        (try simp only [List.getElem_toArray, List.getElem_cons_zero, List.getElem_cons_succ, Act.put, List.setIfInBounds_toArray, List.set_cons_zero, List.set_cons_succ])
        refine wpAnyH_take (i := 7) (v := ?_) rfl (by kernel_rfl) (by kernel_rfl) (by kernel_rfl) (fun _ _ _ h => h) (Or.inl ⟨by rfl, ?_⟩) (by assumption) ?_
        rotate_left
        focus (intro w hSw; (try dsimp only at hSw); go_simp <;> with_reducible rfl)
        (try simp only [List.getElem_toArray, List.getElem_cons_zero, List.getElem_cons_succ, Act.put, List.setIfInBounds_toArray, List.set_cons_zero, List.set_cons_succ])
        refine wpAnyH_ready (rs := [9]) (by kernel_rfl) (by simp) ?_
        refine AllReadyH.cons rfl (fun Kz hKz => ?_) AllReadyH.nil
        (try simp only [List.getElem_toArray, List.getElem_cons_zero, List.getElem_cons_succ])
        go_simp
        refine hKz.out _ _ (by (try dsimp only); exact ⟨(by exact updT), (by exact dieT)⟩) (fun hHeld => ?_)
        clear hKz Kz
        (try simp only [List.getElem_toArray, List.getElem_cons_zero, List.getElem_cons_succ, Act.put, List.setIfInBounds_toArray, List.set_cons_zero, List.set_cons_succ])
        refine wpAnyH_done (by kernel_rfl) ?_ _
        go_wp2_with fail
        go_meet
        case rel => exact ⟨_, (1 + y), a2, n2, k2, a3, n3, k3, (by first | rfl | trivial), (by first | omega | (simp only [World.size_alloc, size_drew]; omega)), (by omega), (by first | omega | (simp only [World.size_alloc, World.size_setCell, size_setRow, size_drew]; omega)), (Blk.cast (by exact blkT) setsT), (by first | (exact OwnI.ext1 Op6 (by exact extT)) | (with_reducible exact Op6) | (refine OwnI.drawn Op6 ?_ (by omega); (exact updT); done) | (refine OwnI.updX Op6 KA6 (by decide) ?_; (exact updT); done)), (by first | (exact OwnI.ext1 Oj6 (by exact extT)) | (with_reducible exact Oj6) | (refine OwnI.drawn Oj6 ?_ (by omega); (exact updT); done) | (refine OwnI.updX Oj6 KA6 (by decide) ?_; (exact updT); done)), (by exact updT), (by exact dieT), (by first | (exact OwnI.ext1 Ol6 (by exact extT)) | (with_reducible exact Ol6) | (refine OwnI.drawn Ol6 ?_ (by omega); (exact updT); done) | (refine OwnI.updX Ol6 KA6 (by decide) ?_; (exact updT); done))⟩
    · skip
      (try simp only [List.getElem_toArray, List.getElem_cons_zero, List.getElem_cons_succ])
      go_simp
      refine hKz.out _ _ (by (try dsimp only); exact ⟨(by exact updT), (by exact dieT)⟩) (fun hHeld => ?_)
      clear hKz Kz
      (try simp only [List.getElem_toArray, List.getElem_cons_zero, List.getElem_cons_succ, Act.put, List.setIfInBounds_toArray, List.set_cons_zero, List.set_cons_succ])
      refine wpAnyH_ready (rs := [1]) (by kernel_rfl) (by simp) ?_
      refine AllReadyH.cons rfl (fun Kz hKz => ?_) AllReadyH.nil
      (try simp only [List.getElem_toArray, List.getElem_cons_zero, List.getElem_cons_succ])
      go_simp
      go_at_call 7
      refine (below_c (show Die B _ g from by exact dieT) 3 (by omega)).mono ?_
      rintro e w5 ⟨_, rfl, X5, hc5, y, rfl, py, qy⟩
      have hz5 := X5.size; (try simp only [World.size_alloc, World.size_setCell, size_setRow, size_drew] at hz5)
      have E5 : Upd w w5 [g] := Upd.trans (by exact updT) X5
      have KA5 : Blk w5 w4.heap.size 38 #[.int .i64 0, .int .i64 0, .int .i64 0, .slice none 0 0, .slice none 0 0, .int .i64 0, .int .i64 0, .int .i64 0] := Blk.upd1 (Blk.cast (by exact blkT) (by first | rfl | simp)) X5 (by omega)
      have Ol5 : OwnI w2.heap.size 58 9 w5 (.slice a0 l.length c0) (flEntry l) := OwnI.drawn (by first | (with_reducible exact Ol4) | (refine OwnI.updX Ol4 KA4 (by decide) ?_; (exact updT); done) | (exact ownT)) X5 (by omega)
      clear X5
      have CA5 := KA5.cell; have FA5 := KA5.frozen; have LA5 := KA5.lt
      have hw8 : IntKind.i64.wrap (1 + y) = 1 + y := by rw [IntKind.wrap_i64]; omega
      refine hKz.out _ _ (by (try dsimp only); exact ⟨(by exact updT), (by exact dieT)⟩) (fun hHeld => ?_)
      clear hKz Kz
      (try simp only [List.getElem_toArray, List.getElem_cons_zero, List.getElem_cons_succ, Act.put, List.setIfInBounds_toArray, List.set_cons_zero, List.set_cons_succ])
      refine wpAnyH_take (i := 2) (v := ?_) rfl (by kernel_rfl) (by kernel_rfl) (by kernel_rfl) (fun _ _ _ h => h) (Or.inl ⟨by rfl, ?_⟩) (by assumption) ?_
      rotate_left
      focus (intro w hSw; (try dsimp only at hSw); go_simp <;> with_reducible rfl)
      (try simp only [List.getElem_toArray, List.getElem_cons_zero, List.getElem_cons_succ, Act.put, List.setIfInBounds_toArray, List.set_cons_zero, List.set_cons_succ])
      refine wpAnyH_ready (rs := [6]) (by kernel_rfl) (by simp) ?_
      refine AllReadyH.cons rfl (fun Kz hKz => ?_) AllReadyH.nil
      (try simp only [List.getElem_toArray, List.getElem_cons_zero, List.getElem_cons_succ])
      go_simp
      go_at_call 8
      refine (w6State_c (l := l.take K) (by rw [flEntry_take]; exact Ints.takeN (OwnI.ints (show OwnI w2.heap.size 58 9 _ _ (flEntry l) from by exact ownT)) (by omega))).mono ?_
      rintro e w6 ⟨_, rfl, hx6, gs⟩
      have hz6 := hx6.size; (try simp only [World.size_alloc, World.size_setCell, size_setRow, size_drew] at hz6)
      have E6 : Upd w w6 [g] := Upd.ext (by exact updT) hx6
      have hc6 : Die B w6 g := Die.ext (by exact dieT) hx6
      have KA6 : Blk w6 w4.heap.size 38 #[.int .i64 0, .int .i64 0, .int .i64 0, .slice none 0 0, .slice none 0 0, .int .i64 0, .int .i64 0, .int .i64 0] := Blk.ext (Blk.cast (by exact blkT) (by first | rfl | simp)) hx6
      have Ol6 : OwnI w2.heap.size 58 9 w6 (.slice a0 l.length c0) (flEntry l) := OwnI.ext1 (by first | (with_reducible exact Ol5) | (refine OwnI.updX Ol5 KA5 (by decide) ?_; (exact updT); done) | (exact ownT)) hx6
      clear hx6
      clear CA5 FA5 LA5
      have CA6 := KA6.cell; have FA6 := KA6.frozen; have LA6 := KA6.lt
      rw [← HsA.out] at gs
      obtain ⟨t2, t3, rfl, h2, h3⟩ := gs
      obtain ⟨a2, n2, k2, rfl⟩ := h2.shape
      obtain ⟨a3, n3, k3, rfl⟩ := h3.shape
      have Op6 := h2.mono (B' := w4.heap.size) (by first | omega | (simp only [World.size_alloc, size_drew]; omega)); have Oj6 := h3.mono (B' := w4.heap.size) (by first | omega | (simp only [World.size_alloc, size_drew]; omega)); clear h2 h3
      refine hKz.out _ _ (by (try dsimp only); exact ⟨(by exact updT), (by exact dieT)⟩) (fun hHeld => ?_)
      clear hKz Kz
      (try simp only [List.getElem_toArray, List.getElem_cons_zero, List.getElem_cons_succ, Act.put, List.setIfInBounds_toArray, List.set_cons_zero, List.set_cons_succ])
      refine wpAnyH_take (i := 7) (v := ?_) rfl (by kernel_rfl) (by kernel_rfl) (by kernel_rfl) (fun _ _ _ h => h) (Or.inl ⟨by rfl, ?_⟩) (by assumption) ?_
      rotate_left
      focus (intro w hSw; (try dsimp only at hSw); go_simp <;> with_reducible rfl)
      (try simp only [List.getElem_toArray, List.getElem_cons_zero, List.getElem_cons_succ, Act.put, List.setIfInBounds_toArray, List.set_cons_zero, List.set_cons_succ])
      refine wpAnyH_ready (rs := [9]) (by kernel_rfl) (by simp) ?_
      refine AllReadyH.cons rfl (fun Kz hKz => ?_) AllReadyH.nil
      (try simp only [List.getElem_toArray, List.getElem_cons_zero, List.getElem_cons_succ])
      go_simp
      refine hKz.out _ _ (by (try dsimp only); exact ⟨(by exact updT), (by exact dieT)⟩) (fun hHeld => ?_)
      clear hKz Kz
      (try simp only [List.getElem_toArray, List.getElem_cons_zero, List.getElem_cons_succ, Act.put, List.setIfInBounds_toArray, List.set_cons_zero, List.set_cons_succ])
      refine wpAnyH_done (by kernel_rfl) ?_ _
      go_wp2_with fail
      go_meet
      case rel => exact ⟨_, (1 + y), a2, n2, k2, a3, n3, k3, (by first | rfl | trivial), (by first | omega | (simp only [World.size_alloc, size_drew]; omega)), (by omega), (by first | omega | (simp only [World.size_alloc, World.size_setCell, size_setRow, size_drew]; omega)), (Blk.cast (by exact blkT) setsT), (by first | (exact OwnI.ext1 Op6 (by exact extT)) | (with_reducible exact Op6) | (refine OwnI.drawn Op6 ?_ (by omega); (exact updT); done) | (refine OwnI.updX Op6 KA6 (by decide) ?_; (exact updT); done)), (by first | (exact OwnI.ext1 Oj6 (by exact extT)) | (with_reducible exact Oj6) | (refine OwnI.drawn Oj6 ?_ (by omega); (exact updT); done) | (refine OwnI.updX Oj6 KA6 (by decide) ?_; (exact updT); done)), (by exact updT), (by exact dieT), (by first | (exact OwnI.ext1 Ol6 (by exact extT)) | (with_reducible exact Ol6) | (refine OwnI.drawn Ol6 ?_ (by omega); (exact updT); done) | (refine OwnI.updX Ol6 KA6 (by decide) ?_; (exact updT); done))⟩
  case rest =>
    revert wc; intro w5 hcut
    obtain ⟨ga, na, a2, n2, k2, a3, n3, k3, rfl, hga, hna, hzcA, KA5, Op5, Oj5, E5, hc5, Ol5⟩ := hcut
    have hz5 := E5.size
    have CA5 := KA5.cell; have FA5 := KA5.frozen; have LA5 := KA5.lt
    have hlA9 := KA5.lt
    go_upto_region 9 with (fail)
    go_cut [7] (fun cx0 wx => ∃ gb : Nat, ∃ nb : Int, ∃ a4 : Option Addr, ∃ n4 : Nat, ∃ k4 : Nat, ∃ a5 : Option Addr, ∃ n5 : Nat, ∃ k5 : Nat, cx0 = .pointer (some ⟨gb, 0, none⟩) ∧ w5.heap.size ≤ gb ∧ (na < nb ∧ nb ≤ 6) ∧ (w5.heap.size ≤ wx.heap.size) ∧ Blk wx gb 38 #[.int .i64 nb, .int .i64 sB.Index, .int .i64 sB.Time, .slice a4 n4 k4, .slice a5 n5 k5, .int .i64 sB.Lease.Holder, .int .i64 sB.Lease.Epoch, .int .i64 sB.Lease.Until] ∧ OwnI w5.heap.size 111 2 wx (.slice a4 n4 k4) (flPair sB.Pairs) ∧ OwnI w5.heap.size 92 5 wx (.slice a5 n5 k5) (flJob sB.Jobs) ∧ Upd w wx [g] ∧ Die B wx g ∧ Blk wx ga 38 #[.int .i64 na, .int .i64 sA.Index, .int .i64 sA.Time, .slice a2 n2 k2, .slice a3 n3 k3, .int .i64 sA.Lease.Holder, .int .i64 sA.Lease.Epoch, .int .i64 sA.Lease.Until] ∧ OwnI w2.heap.size 58 9 wx (.slice a0 l.length c0) (flEntry l) ∧ OwnI w4.heap.size 111 2 wx (.slice a2 n2 k2) (flPair sA.Pairs) ∧ OwnI w4.heap.size 92 5 wx (.slice a3 n3 k3) (flJob sA.Jobs))
    case first =>
      have hw9a : IntKind.i64.wrap (na + 1) = na + 1 := by rw [IntKind.wrap_i64]; omega
      refine wp_region_held_drew (S := fun w' => Upd w w' [g] ∧ Die B w' g ∧ Blk w' ga 38 #[.int .i64 na, .int .i64 sA.Index, .int .i64 sA.Time, .slice a2 n2 k2, .slice a3 n3 k3, .int .i64 sA.Lease.Holder, .int .i64 sA.Lease.Epoch, .int .i64 sA.Lease.Until]) (by kernel_rfl) (by (try dsimp only); exact ⟨(by exact updT), (by exact dieT), (Blk.cast (by exact blkT) setsT)⟩) (fun hHeld => ?_)
      refine wpAnyH_take (i := 0) (v := ?_) rfl (by kernel_rfl) (by kernel_rfl) (by kernel_rfl) (fun _ _ _ h => h) (Or.inl ⟨by rfl, ?_⟩) (by assumption) ?_
      rotate_left
      focus (intro w hSw; (try dsimp only at hSw); go_simp <;> with_reducible rfl)
      (try simp only [List.getElem_toArray, List.getElem_cons_zero, List.getElem_cons_succ, Act.put, List.setIfInBounds_toArray, List.set_cons_zero, List.set_cons_succ])
      refine wpAnyH_take (i := 1) (v := ?_) rfl (by kernel_rfl) (by kernel_rfl) (by kernel_rfl) (fun _ _ _ h => h) (Or.inl ⟨by rfl, ?_⟩) (by assumption) ?_
      rotate_left
      focus (intro w hSw; (try dsimp only at hSw); have hq := hSw.2.2.cell; go_simp <;> with_reducible rfl)
      (try simp only [List.getElem_toArray, List.getElem_cons_zero, List.getElem_cons_succ, Act.put, List.setIfInBounds_toArray, List.set_cons_zero, List.set_cons_succ])
      refine wpAnyH_take (i := 2) (v := ?_) rfl (by kernel_rfl) (by kernel_rfl) (by kernel_rfl) (fun _ _ _ h => h) (Or.inl ⟨by rfl, ?_⟩) (by assumption) ?_
      rotate_left
      focus (intro w hSw; (try dsimp only at hSw); go_simp <;> with_reducible rfl)
      (try simp only [List.getElem_toArray, List.getElem_cons_zero, List.getElem_cons_succ, Act.put, List.setIfInBounds_toArray, List.set_cons_zero, List.set_cons_succ])
      refine wpAnyH_take (i := 3) (v := ?_) rfl (by kernel_rfl) (by kernel_rfl) (by kernel_rfl) (fun _ _ _ h => h) (Or.inl ⟨by rfl, ?_⟩) (by assumption) ?_
      rotate_left
      focus (intro w hSw; (try dsimp only at hSw); go_simp <;> with_reducible rfl)
      (try simp only [List.getElem_toArray, List.getElem_cons_zero, List.getElem_cons_succ, Act.put, List.setIfInBounds_toArray, List.set_cons_zero, List.set_cons_succ])
      refine wpAnyH_take (i := 6) (v := ?_) rfl (by kernel_rfl) (by kernel_rfl) (by kernel_rfl) (fun _ _ _ h => h) (Or.inl ⟨by rfl, ?_⟩) (by assumption) ?_
      rotate_left
      focus (intro w hSw; (try dsimp only at hSw); go_simp <;> with_reducible rfl)
      (try simp only [List.getElem_toArray, List.getElem_cons_zero, List.getElem_cons_succ, Act.put, List.setIfInBounds_toArray, List.set_cons_zero, List.set_cons_succ])
      refine wpAnyH_ready (rs := [4, 9]) (by kernel_rfl) (by simp) ?_
      refine AllReadyH.cons rfl (fun Kz hKz => ?_) (AllReadyH.cons rfl (fun Kz hKz => ?_) AllReadyH.nil)
      · skip
        (try simp only [List.getElem_toArray, List.getElem_cons_zero, List.getElem_cons_succ])
        go_simp
        go_at_call 7
        refine (below_c (show Die B _ g from by exact dieT) 3 (by omega)).mono ?_
        rintro e w6 ⟨_, rfl, X6, hc6, z, rfl, pz, qz⟩
        have hz6 := X6.size; (try simp only [World.size_alloc, World.size_setCell, size_setRow, size_drew] at hz6)
        have E6 : Upd w w6 [g] := Upd.trans (by exact updT) X6
        have KA6 : Blk w6 ga 38 #[.int .i64 na, .int .i64 sA.Index, .int .i64 sA.Time, .slice a2 n2 k2, .slice a3 n3 k3, .int .i64 sA.Lease.Holder, .int .i64 sA.Lease.Epoch, .int .i64 sA.Lease.Until] := Blk.upd1 (Blk.cast (by exact blkT) (by first | rfl | simp)) X6 (by omega)
        have Ol6 : OwnI w2.heap.size 58 9 w6 (.slice a0 l.length c0) (flEntry l) := OwnI.drawn (by first | (with_reducible exact Ol5) | (exact ownT)) X6 (by omega)
        have Op6 : OwnI w4.heap.size 111 2 w6 (.slice a2 n2 k2) (flPair sA.Pairs) := OwnI.drawn (by first | (with_reducible exact Op5) | (exact ownT)) X6 (by omega)
        have Oj6 : OwnI w4.heap.size 92 5 w6 (.slice a3 n3 k3) (flJob sA.Jobs) := OwnI.drawn (by first | (with_reducible exact Oj5) | (exact ownT)) X6 (by omega)
        clear X6
        clear CA5 FA5 LA5
        have CA6 := KA6.cell; have FA6 := KA6.frozen; have LA6 := KA6.lt
        have hw9b : IntKind.i64.wrap (na + 1 + z) = na + 1 + z := by rw [IntKind.wrap_i64]; omega
        refine hKz.out _ _ (by (try dsimp only); exact ⟨(by exact updT), (by exact dieT), (Blk.cast (by exact blkT) setsT)⟩) (fun hHeld => ?_)
        clear hKz Kz
        (try simp only [List.getElem_toArray, List.getElem_cons_zero, List.getElem_cons_succ, Act.put, List.setIfInBounds_toArray, List.set_cons_zero, List.set_cons_succ])
        refine wpAnyH_take (i := 5) (v := ?_) rfl (by kernel_rfl) (by kernel_rfl) (by kernel_rfl) (fun _ _ _ h => h) (Or.inl ⟨by rfl, ?_⟩) (by assumption) ?_
        rotate_left
        focus (intro w hSw; (try dsimp only at hSw); go_simp <;> with_reducible rfl)
        (try simp only [List.getElem_toArray, List.getElem_cons_zero, List.getElem_cons_succ, Act.put, List.setIfInBounds_toArray, List.set_cons_zero, List.set_cons_succ])
        refine wpAnyH_ready (rs := [7, 9]) (by kernel_rfl) (by simp) ?_
        refine AllReadyH.cons rfl (fun Kz hKz => ?_) (AllReadyH.cons rfl (fun Kz hKz => ?_) AllReadyH.nil)
        · skip
          (try simp only [List.getElem_toArray, List.getElem_cons_zero, List.getElem_cons_succ])
          go_simp
          go_at_call 8
          refine (w6State_c (l := l) (OwnI.ints (show OwnI w2.heap.size 58 9 _ _ (flEntry l) from by exact ownT))).mono ?_
          rintro e w7 ⟨_, rfl, hx7, gs⟩
          have hz7 := hx7.size; (try simp only [World.size_alloc, World.size_setCell, size_setRow, size_drew] at hz7)
          have E7 : Upd w w7 [g] := Upd.ext (by exact updT) hx7
          have hc7 : Die B w7 g := Die.ext (by exact dieT) hx7
          have KA7 : Blk w7 ga 38 #[.int .i64 na, .int .i64 sA.Index, .int .i64 sA.Time, .slice a2 n2 k2, .slice a3 n3 k3, .int .i64 sA.Lease.Holder, .int .i64 sA.Lease.Epoch, .int .i64 sA.Lease.Until] := Blk.ext (Blk.cast (by exact blkT) (by first | rfl | simp)) hx7
          have Ol7 : OwnI w2.heap.size 58 9 w7 (.slice a0 l.length c0) (flEntry l) := OwnI.ext1 (by first | (with_reducible exact Ol6) | (exact ownT)) hx7
          have Op7 : OwnI w4.heap.size 111 2 w7 (.slice a2 n2 k2) (flPair sA.Pairs) := OwnI.ext1 (by first | (with_reducible exact Op6) | (exact ownT)) hx7
          have Oj7 : OwnI w4.heap.size 92 5 w7 (.slice a3 n3 k3) (flJob sA.Jobs) := OwnI.ext1 (by first | (with_reducible exact Oj6) | (exact ownT)) hx7
          clear hx7
          clear CA6 FA6 LA6
          have CA7 := KA7.cell; have FA7 := KA7.frozen; have LA7 := KA7.lt
          rw [← HsB.out] at gs
          obtain ⟨t2, t3, rfl, h2, h3⟩ := gs
          obtain ⟨a4, n4, k4, rfl⟩ := h2.shape
          obtain ⟨a5, n5, k5, rfl⟩ := h3.shape
          have Ou7 := h2.mono (B' := w5.heap.size) (by first | omega | (simp only [World.size_alloc, size_drew]; omega)); have Ov7 := h3.mono (B' := w5.heap.size) (by first | omega | (simp only [World.size_alloc, size_drew]; omega)); clear h2 h3
          refine hKz.out _ _ (by (try dsimp only); exact ⟨(by exact updT), (by exact dieT), (Blk.cast (by exact blkT) setsT)⟩) (fun hHeld => ?_)
          clear hKz Kz
          (try simp only [List.getElem_toArray, List.getElem_cons_zero, List.getElem_cons_succ, Act.put, List.setIfInBounds_toArray, List.set_cons_zero, List.set_cons_succ])
          refine wpAnyH_take (i := 8) (v := ?_) rfl (by kernel_rfl) (by kernel_rfl) (by kernel_rfl) (fun _ _ _ h => h) (Or.inl ⟨by rfl, ?_⟩) (by assumption) ?_
          rotate_left
          focus (intro w hSw; (try dsimp only at hSw); go_simp <;> with_reducible rfl)
          (try simp only [List.getElem_toArray, List.getElem_cons_zero, List.getElem_cons_succ, Act.put, List.setIfInBounds_toArray, List.set_cons_zero, List.set_cons_succ])
          refine wpAnyH_ready (rs := [9]) (by kernel_rfl) (by simp) ?_
          refine AllReadyH.cons rfl (fun Kz hKz => ?_) AllReadyH.nil
          (try simp only [List.getElem_toArray, List.getElem_cons_zero, List.getElem_cons_succ])
          go_simp
          refine hKz.out _ _ (by (try dsimp only); exact ⟨(by exact updT), (by exact dieT), (Blk.cast (by exact blkT) setsT)⟩) (fun hHeld => ?_)
          clear hKz Kz
          (try simp only [List.getElem_toArray, List.getElem_cons_zero, List.getElem_cons_succ, Act.put, List.setIfInBounds_toArray, List.set_cons_zero, List.set_cons_succ])
          refine wpAnyH_ready (rs := [10]) (by kernel_rfl) (by simp) ?_
          refine AllReadyH.cons rfl (fun Kz hKz => ?_) AllReadyH.nil
          (try simp only [List.getElem_toArray, List.getElem_cons_zero, List.getElem_cons_succ])
          go_simp
          refine hKz.out _ _ (by (try dsimp only); exact ⟨(by exact updT), (by exact dieT), (Blk.cast (by exact blkT) setsT)⟩) (fun hHeld => ?_)
          clear hKz Kz
          (try simp only [List.getElem_toArray, List.getElem_cons_zero, List.getElem_cons_succ, Act.put, List.setIfInBounds_toArray, List.set_cons_zero, List.set_cons_succ])
          refine wpAnyH_done (by kernel_rfl) ?_ _
          go_wp2_with fail
          go_meet
          case rel => exact ⟨_, (na + 1 + z), a4, n4, k4, a5, n5, k5, (by first | rfl | trivial), (by first | omega | (simp only [World.size_alloc, size_drew]; omega)), (by omega), (by first | omega | (simp only [World.size_alloc, World.size_setCell, size_setRow, size_drew]; omega)), (Blk.cast (by exact blkT) setsT), (by first | (exact OwnI.ext1 Ou7 (by exact extT)) | (with_reducible exact Ou7) | (refine OwnI.drawn Ou7 ?_ (by omega); (exact updT); done)), (by first | (exact OwnI.ext1 Ov7 (by exact extT)) | (with_reducible exact Ov7) | (refine OwnI.drawn Ov7 ?_ (by omega); (exact updT); done)), (by exact updT), (by exact dieT), (Blk.cast (by exact blkT) setsT), (by first | (exact OwnI.ext1 Ol7 (by exact extT)) | (with_reducible exact Ol7) | (refine OwnI.drawn Ol7 ?_ (by omega); (exact updT); done)), (by first | (exact OwnI.ext1 Op7 (by exact extT)) | (with_reducible exact Op7) | (refine OwnI.drawn Op7 ?_ (by omega); (exact updT); done)), (by first | (exact OwnI.ext1 Oj7 (by exact extT)) | (with_reducible exact Oj7) | (refine OwnI.drawn Oj7 ?_ (by omega); (exact updT); done))⟩
        · skip
          (try simp only [List.getElem_toArray, List.getElem_cons_zero, List.getElem_cons_succ])
          go_simp
          refine hKz.out _ _ (by (try dsimp only); exact ⟨(by exact updT), (by exact dieT), (Blk.cast (by exact blkT) setsT)⟩) (fun hHeld => ?_)
          clear hKz Kz
          (try simp only [List.getElem_toArray, List.getElem_cons_zero, List.getElem_cons_succ, Act.put, List.setIfInBounds_toArray, List.set_cons_zero, List.set_cons_succ])
          refine wpAnyH_ready (rs := [7]) (by kernel_rfl) (by simp) ?_
          refine AllReadyH.cons rfl (fun Kz hKz => ?_) AllReadyH.nil
          (try simp only [List.getElem_toArray, List.getElem_cons_zero, List.getElem_cons_succ])
          go_simp
          go_at_call 8
          refine (w6State_c (l := l) (OwnI.ints (show OwnI w2.heap.size 58 9 _ _ (flEntry l) from by exact ownT))).mono ?_
          rintro e w7 ⟨_, rfl, hx7, gs⟩
          have hz7 := hx7.size; (try simp only [World.size_alloc, World.size_setCell, size_setRow, size_drew] at hz7)
          have E7 : Upd w w7 [g] := Upd.ext (by exact updT) hx7
          have hc7 : Die B w7 g := Die.ext (by exact dieT) hx7
          have KA7 : Blk w7 ga 38 #[.int .i64 na, .int .i64 sA.Index, .int .i64 sA.Time, .slice a2 n2 k2, .slice a3 n3 k3, .int .i64 sA.Lease.Holder, .int .i64 sA.Lease.Epoch, .int .i64 sA.Lease.Until] := Blk.ext (Blk.cast (by exact blkT) (by first | rfl | simp)) hx7
          have KQ7 : Blk w7 w6.heap.size 38 #[.int .i64 0, .int .i64 0, .int .i64 0, .slice none 0 0, .slice none 0 0, .int .i64 0, .int .i64 0, .int .i64 0] := Blk.ext (Blk.cast (by exact blkT) (by first | rfl | simp)) hx7
          have Ol7 : OwnI w2.heap.size 58 9 w7 (.slice a0 l.length c0) (flEntry l) := OwnI.ext1 (by first | (with_reducible exact Ol6) | (refine OwnI.updX Ol6 KQ6 (by decide) ?_; (exact updT); done) | (exact ownT)) hx7
          have Op7 : OwnI w4.heap.size 111 2 w7 (.slice a2 n2 k2) (flPair sA.Pairs) := OwnI.ext1 (by first | (with_reducible exact Op6) | (refine OwnI.updX Op6 KQ6 (by decide) ?_; (exact updT); done) | (exact ownT)) hx7
          have Oj7 : OwnI w4.heap.size 92 5 w7 (.slice a3 n3 k3) (flJob sA.Jobs) := OwnI.ext1 (by first | (with_reducible exact Oj6) | (refine OwnI.updX Oj6 KQ6 (by decide) ?_; (exact updT); done) | (exact ownT)) hx7
          clear hx7
          clear CA6 FA6 LA6
          have CA7 := KA7.cell; have FA7 := KA7.frozen; have LA7 := KA7.lt
          have CQ7 := KQ7.cell; have FQ7 := KQ7.frozen; have LQ7 := KQ7.lt
          rw [← HsB.out] at gs
          obtain ⟨t2, t3, rfl, h2, h3⟩ := gs
          obtain ⟨a4, n4, k4, rfl⟩ := h2.shape
          obtain ⟨a5, n5, k5, rfl⟩ := h3.shape
          have Ou7 := h2.mono (B' := w5.heap.size) (by first | omega | (simp only [World.size_alloc, size_drew]; omega)); have Ov7 := h3.mono (B' := w5.heap.size) (by first | omega | (simp only [World.size_alloc, size_drew]; omega)); clear h2 h3
          refine hKz.out _ _ (by (try dsimp only); exact ⟨(by exact updT), (by exact dieT), (Blk.cast (by exact blkT) setsT)⟩) (fun hHeld => ?_)
          clear hKz Kz
          (try simp only [List.getElem_toArray, List.getElem_cons_zero, List.getElem_cons_succ, Act.put, List.setIfInBounds_toArray, List.set_cons_zero, List.set_cons_succ])
          refine wpAnyH_take (i := 8) (v := ?_) rfl (by kernel_rfl) (by kernel_rfl) (by kernel_rfl) (fun _ _ _ h => h) (Or.inl ⟨by rfl, ?_⟩) (by assumption) ?_
          rotate_left
          focus (intro w hSw; (try dsimp only at hSw); go_simp <;> with_reducible rfl)
          (try simp only [List.getElem_toArray, List.getElem_cons_zero, List.getElem_cons_succ, Act.put, List.setIfInBounds_toArray, List.set_cons_zero, List.set_cons_succ])
          refine wpAnyH_ready (rs := [10]) (by kernel_rfl) (by simp) ?_
          refine AllReadyH.cons rfl (fun Kz hKz => ?_) AllReadyH.nil
          (try simp only [List.getElem_toArray, List.getElem_cons_zero, List.getElem_cons_succ])
          go_simp
          refine hKz.out _ _ (by (try dsimp only); exact ⟨(by exact updT), (by exact dieT), (Blk.cast (by exact blkT) setsT)⟩) (fun hHeld => ?_)
          clear hKz Kz
          (try simp only [List.getElem_toArray, List.getElem_cons_zero, List.getElem_cons_succ, Act.put, List.setIfInBounds_toArray, List.set_cons_zero, List.set_cons_succ])
          refine wpAnyH_done (by kernel_rfl) ?_ _
          go_wp2_with fail
          go_meet
          case rel => exact ⟨_, (na + 1 + z), a4, n4, k4, a5, n5, k5, (by first | rfl | trivial), (by first | omega | (simp only [World.size_alloc, size_drew]; omega)), (by omega), (by first | omega | (simp only [World.size_alloc, World.size_setCell, size_setRow, size_drew]; omega)), (Blk.cast (by exact blkT) setsT), (by first | (exact OwnI.ext1 Ou7 (by exact extT)) | (with_reducible exact Ou7) | (refine OwnI.drawn Ou7 ?_ (by omega); (exact updT); done) | (refine OwnI.updX Ou7 KQ7 (by decide) ?_; (exact updT); done)), (by first | (exact OwnI.ext1 Ov7 (by exact extT)) | (with_reducible exact Ov7) | (refine OwnI.drawn Ov7 ?_ (by omega); (exact updT); done) | (refine OwnI.updX Ov7 KQ7 (by decide) ?_; (exact updT); done)), (by exact updT), (by exact dieT), (Blk.cast (by exact blkT) setsT), (by first | (exact OwnI.ext1 Ol7 (by exact extT)) | (with_reducible exact Ol7) | (refine OwnI.drawn Ol7 ?_ (by omega); (exact updT); done) | (refine OwnI.updX Ol7 KQ7 (by decide) ?_; (exact updT); done)), (by first | (exact OwnI.ext1 Op7 (by exact extT)) | (with_reducible exact Op7) | (refine OwnI.drawn Op7 ?_ (by omega); (exact updT); done) | (refine OwnI.updX Op7 KQ7 (by decide) ?_; (exact updT); done)), (by first | (exact OwnI.ext1 Oj7 (by exact extT)) | (with_reducible exact Oj7) | (refine OwnI.drawn Oj7 ?_ (by omega); (exact updT); done) | (refine OwnI.updX Oj7 KQ7 (by decide) ?_; (exact updT); done))⟩
      · skip
        (try simp only [List.getElem_toArray, List.getElem_cons_zero, List.getElem_cons_succ])
        go_simp
        refine hKz.out _ _ (by (try dsimp only); exact ⟨(by exact updT), (by exact dieT), (Blk.cast (by exact blkT) setsT)⟩) (fun hHeld => ?_)
        clear hKz Kz
        (try simp only [List.getElem_toArray, List.getElem_cons_zero, List.getElem_cons_succ, Act.put, List.setIfInBounds_toArray, List.set_cons_zero, List.set_cons_succ])
        refine wpAnyH_ready (rs := [4]) (by kernel_rfl) (by simp) ?_
        refine AllReadyH.cons rfl (fun Kz hKz => ?_) AllReadyH.nil
        (try simp only [List.getElem_toArray, List.getElem_cons_zero, List.getElem_cons_succ])
        go_simp
        go_at_call 7
        refine (below_c (show Die B _ g from by exact dieT) 3 (by omega)).mono ?_
        rintro e w6 ⟨_, rfl, X6, hc6, z, rfl, pz, qz⟩
        have hz6 := X6.size; (try simp only [World.size_alloc, World.size_setCell, size_setRow, size_drew] at hz6)
        have E6 : Upd w w6 [g] := Upd.trans (by exact updT) X6
        have KA6 : Blk w6 ga 38 #[.int .i64 na, .int .i64 sA.Index, .int .i64 sA.Time, .slice a2 n2 k2, .slice a3 n3 k3, .int .i64 sA.Lease.Holder, .int .i64 sA.Lease.Epoch, .int .i64 sA.Lease.Until] := Blk.upd1 (Blk.cast (by exact blkT) (by first | rfl | simp)) X6 (by omega)
        have KQ6 : Blk w6 w5.heap.size 38 #[.int .i64 0, .int .i64 0, .int .i64 0, .slice none 0 0, .slice none 0 0, .int .i64 0, .int .i64 0, .int .i64 0] := Blk.upd1 (Blk.cast (by exact blkT) (by first | rfl | simp)) X6 (by omega)
        have Ol6 : OwnI w2.heap.size 58 9 w6 (.slice a0 l.length c0) (flEntry l) := OwnI.drawn (by first | (with_reducible exact Ol5) | (refine OwnI.updX Ol5 KQ5 (by decide) ?_; (exact updT); done) | (exact ownT)) X6 (by omega)
        have Op6 : OwnI w4.heap.size 111 2 w6 (.slice a2 n2 k2) (flPair sA.Pairs) := OwnI.drawn (by first | (with_reducible exact Op5) | (refine OwnI.updX Op5 KQ5 (by decide) ?_; (exact updT); done) | (exact ownT)) X6 (by omega)
        have Oj6 : OwnI w4.heap.size 92 5 w6 (.slice a3 n3 k3) (flJob sA.Jobs) := OwnI.drawn (by first | (with_reducible exact Oj5) | (refine OwnI.updX Oj5 KQ5 (by decide) ?_; (exact updT); done) | (exact ownT)) X6 (by omega)
        clear X6
        clear CA5 FA5 LA5
        have CA6 := KA6.cell; have FA6 := KA6.frozen; have LA6 := KA6.lt
        have CQ6 := KQ6.cell; have FQ6 := KQ6.frozen; have LQ6 := KQ6.lt
        have hw9b : IntKind.i64.wrap (na + 1 + z) = na + 1 + z := by rw [IntKind.wrap_i64]; omega
        refine hKz.out _ _ (by (try dsimp only); exact ⟨(by exact updT), (by exact dieT), (Blk.cast (by exact blkT) setsT)⟩) (fun hHeld => ?_)
        clear hKz Kz
        (try simp only [List.getElem_toArray, List.getElem_cons_zero, List.getElem_cons_succ, Act.put, List.setIfInBounds_toArray, List.set_cons_zero, List.set_cons_succ])
        refine wpAnyH_take (i := 5) (v := ?_) rfl (by kernel_rfl) (by kernel_rfl) (by kernel_rfl) (fun _ _ _ h => h) (Or.inl ⟨by rfl, ?_⟩) (by assumption) ?_
        rotate_left
        focus (intro w hSw; (try dsimp only at hSw); go_simp <;> with_reducible rfl)
        (try simp only [List.getElem_toArray, List.getElem_cons_zero, List.getElem_cons_succ, Act.put, List.setIfInBounds_toArray, List.set_cons_zero, List.set_cons_succ])
        refine wpAnyH_ready (rs := [7]) (by kernel_rfl) (by simp) ?_
        refine AllReadyH.cons rfl (fun Kz hKz => ?_) AllReadyH.nil
        (try simp only [List.getElem_toArray, List.getElem_cons_zero, List.getElem_cons_succ])
        go_simp
        go_at_call 8
        refine (w6State_c (l := l) (OwnI.ints (show OwnI w2.heap.size 58 9 _ _ (flEntry l) from by exact ownT))).mono ?_
        rintro e w7 ⟨_, rfl, hx7, gs⟩
        have hz7 := hx7.size; (try simp only [World.size_alloc, World.size_setCell, size_setRow, size_drew] at hz7)
        have E7 : Upd w w7 [g] := Upd.ext (by exact updT) hx7
        have hc7 : Die B w7 g := Die.ext (by exact dieT) hx7
        have KA7 : Blk w7 ga 38 #[.int .i64 na, .int .i64 sA.Index, .int .i64 sA.Time, .slice a2 n2 k2, .slice a3 n3 k3, .int .i64 sA.Lease.Holder, .int .i64 sA.Lease.Epoch, .int .i64 sA.Lease.Until] := Blk.ext (Blk.cast (by exact blkT) (by first | rfl | simp)) hx7
        have KQ7 : Blk w7 w5.heap.size 38 #[.int .i64 0, .int .i64 0, .int .i64 0, .slice none 0 0, .slice none 0 0, .int .i64 0, .int .i64 0, .int .i64 0] := Blk.ext (Blk.cast (by exact blkT) (by first | rfl | simp)) hx7
        have Ol7 : OwnI w2.heap.size 58 9 w7 (.slice a0 l.length c0) (flEntry l) := OwnI.ext1 (by first | (with_reducible exact Ol6) | (refine OwnI.updX Ol6 KQ6 (by decide) ?_; (exact updT); done) | (exact ownT)) hx7
        have Op7 : OwnI w4.heap.size 111 2 w7 (.slice a2 n2 k2) (flPair sA.Pairs) := OwnI.ext1 (by first | (with_reducible exact Op6) | (refine OwnI.updX Op6 KQ6 (by decide) ?_; (exact updT); done) | (exact ownT)) hx7
        have Oj7 : OwnI w4.heap.size 92 5 w7 (.slice a3 n3 k3) (flJob sA.Jobs) := OwnI.ext1 (by first | (with_reducible exact Oj6) | (refine OwnI.updX Oj6 KQ6 (by decide) ?_; (exact updT); done) | (exact ownT)) hx7
        clear hx7
        clear CA6 FA6 LA6 CQ6 FQ6 LQ6
        have CA7 := KA7.cell; have FA7 := KA7.frozen; have LA7 := KA7.lt
        have CQ7 := KQ7.cell; have FQ7 := KQ7.frozen; have LQ7 := KQ7.lt
        rw [← HsB.out] at gs
        obtain ⟨t2, t3, rfl, h2, h3⟩ := gs
        obtain ⟨a4, n4, k4, rfl⟩ := h2.shape
        obtain ⟨a5, n5, k5, rfl⟩ := h3.shape
        have Ou7 := h2.mono (B' := w5.heap.size) (by first | omega | (simp only [World.size_alloc, size_drew]; omega)); have Ov7 := h3.mono (B' := w5.heap.size) (by first | omega | (simp only [World.size_alloc, size_drew]; omega)); clear h2 h3
        refine hKz.out _ _ (by (try dsimp only); exact ⟨(by exact updT), (by exact dieT), (Blk.cast (by exact blkT) setsT)⟩) (fun hHeld => ?_)
        clear hKz Kz
        (try simp only [List.getElem_toArray, List.getElem_cons_zero, List.getElem_cons_succ, Act.put, List.setIfInBounds_toArray, List.set_cons_zero, List.set_cons_succ])
        refine wpAnyH_take (i := 8) (v := ?_) rfl (by kernel_rfl) (by kernel_rfl) (by kernel_rfl) (fun _ _ _ h => h) (Or.inl ⟨by rfl, ?_⟩) (by assumption) ?_
        rotate_left
        focus (intro w hSw; (try dsimp only at hSw); go_simp <;> with_reducible rfl)
        (try simp only [List.getElem_toArray, List.getElem_cons_zero, List.getElem_cons_succ, Act.put, List.setIfInBounds_toArray, List.set_cons_zero, List.set_cons_succ])
        refine wpAnyH_ready (rs := [10]) (by kernel_rfl) (by simp) ?_
        refine AllReadyH.cons rfl (fun Kz hKz => ?_) AllReadyH.nil
        (try simp only [List.getElem_toArray, List.getElem_cons_zero, List.getElem_cons_succ])
        go_simp
        refine hKz.out _ _ (by (try dsimp only); exact ⟨(by exact updT), (by exact dieT), (Blk.cast (by exact blkT) setsT)⟩) (fun hHeld => ?_)
        clear hKz Kz
        (try simp only [List.getElem_toArray, List.getElem_cons_zero, List.getElem_cons_succ, Act.put, List.setIfInBounds_toArray, List.set_cons_zero, List.set_cons_succ])
        refine wpAnyH_done (by kernel_rfl) ?_ _
        go_wp2_with fail
        go_meet
        case rel => exact ⟨_, (na + 1 + z), a4, n4, k4, a5, n5, k5, (by first | rfl | trivial), (by first | omega | (simp only [World.size_alloc, size_drew]; omega)), (by omega), (by first | omega | (simp only [World.size_alloc, World.size_setCell, size_setRow, size_drew]; omega)), (Blk.cast (by exact blkT) setsT), (by first | (exact OwnI.ext1 Ou7 (by exact extT)) | (with_reducible exact Ou7) | (refine OwnI.drawn Ou7 ?_ (by omega); (exact updT); done) | (refine OwnI.updX Ou7 KQ7 (by decide) ?_; (exact updT); done)), (by first | (exact OwnI.ext1 Ov7 (by exact extT)) | (with_reducible exact Ov7) | (refine OwnI.drawn Ov7 ?_ (by omega); (exact updT); done) | (refine OwnI.updX Ov7 KQ7 (by decide) ?_; (exact updT); done)), (by exact updT), (by exact dieT), (Blk.cast (by exact blkT) setsT), (by first | (exact OwnI.ext1 Ol7 (by exact extT)) | (with_reducible exact Ol7) | (refine OwnI.drawn Ol7 ?_ (by omega); (exact updT); done) | (refine OwnI.updX Ol7 KQ7 (by decide) ?_; (exact updT); done)), (by first | (exact OwnI.ext1 Op7 (by exact extT)) | (with_reducible exact Op7) | (refine OwnI.drawn Op7 ?_ (by omega); (exact updT); done) | (refine OwnI.updX Op7 KQ7 (by decide) ?_; (exact updT); done)), (by first | (exact OwnI.ext1 Oj7 (by exact extT)) | (with_reducible exact Oj7) | (refine OwnI.drawn Oj7 ?_ (by omega); (exact updT); done) | (refine OwnI.updX Oj7 KQ7 (by decide) ?_; (exact updT); done))⟩
    case rest =>
      revert wc; intro w6 hcut
      obtain ⟨gb, nb, a4, n4, k4, a5, n5, k5, rfl, hgb, hnb, hzcQ, KQ6, Ou6, Ov6, E6, hc6, KA6, Ol6, Op6, Oj6⟩ := hcut
      have hz6 := E6.size
      clear CA5 FA5 LA5
      have CA6 := KA6.cell; have FA6 := KA6.frozen; have LA6 := KA6.lt
      have CQ6 := KQ6.cell; have FQ6 := KQ6.frozen; have LQ6 := KQ6.lt
      have hlQ9 := KQ6.lt
      have hso1 : shotOk (⟨na, sA⟩ : DShot) = true := by
        have := HAi.out
        simp only [shotOk, Bool.and_eq_true, decide_eq_true_eq, inb_true]
        exact ⟨by omega, hAo, by omega⟩
      have hso2 : shotOk (⟨nb, sB⟩ : DShot) = true := by
        have := HBi.out
        simp only [shotOk, Bool.and_eq_true, decide_eq_true_eq, inb_true]
        exact ⟨by omega, hBo, by omega⟩
      have HT := Lib.hid (fun fates => torn_says (a := ⟨na, sA⟩) (b := ⟨nb, sB⟩) (slot := 1) fates rfl hso1 hso2 hnb.1)
      have hone : shOk (newDisk 8) 1 (⟨na, sA⟩ : DShot) = true := (HT.out []).1
      obtain ⟨D1, hD1⟩ : ∃ d, d = shD (newDisk 8) 1 (⟨na, sA⟩ : DShot) := ⟨_, rfl⟩
      obtain ⟨D2, hD2⟩ : ∃ d, d = fallenDisk true [] D1 := ⟨_, rfl⟩
      obtain ⟨D3, hD3⟩ : ∃ d, d = shD D2 1 (⟨nb, sB⟩ : DShot) := ⟨_, rfl⟩
      have htwo : shOk D2 1 (⟨nb, sB⟩ : DShot) = true := by rw [hD2, hD1]; exact (HT.out []).2.1
      have HhD1 := Lib.hid hD1
      have HhD2 := Lib.hid hD2
      have HhD3 := Lib.hid hD3
      have Hhone := Lib.hid hone
      have Hhtwo := Lib.hid htwo
      have Hhso1 := Lib.hid hso1
      have Hhso2 := Lib.hid hso2
      clear hD1 hD2 hD3 hone htwo hso1 hso2
      go_upto_region 10 with (fail)
      go_cut [8, 9] (fun cx0 cx1 wx => ∃ gD : Nat, ∃ one : Bool, ∃ a8 : Option Addr, ∃ n8 : Nat, ∃ k8 : Nat, ∃ a9 : Option Addr, ∃ n9 : Nat, ∃ k9 : Nat, cx0 = .pointer (some ⟨gD, 0, none⟩) ∧ cx1 = .bool one ∧ w6.heap.size ≤ gD ∧ (one = true) ∧ (∃ Bd, g < Bd ∧ IsDisk Bd wx (.agg #[.slice a8 n8 k8, .slice a9 n9 k9]) D1) ∧ (w6.heap.size ≤ wx.heap.size) ∧ Blk wx gD 42 #[.slice a8 n8 k8, .slice a9 n9 k9] ∧ Upd w wx [g] ∧ Die B wx g ∧ Blk wx ga 38 #[.int .i64 na, .int .i64 sA.Index, .int .i64 sA.Time, .slice a2 n2 k2, .slice a3 n3 k3, .int .i64 sA.Lease.Holder, .int .i64 sA.Lease.Epoch, .int .i64 sA.Lease.Until] ∧ Blk wx gb 38 #[.int .i64 nb, .int .i64 sB.Index, .int .i64 sB.Time, .slice a4 n4 k4, .slice a5 n5 k5, .int .i64 sB.Lease.Holder, .int .i64 sB.Lease.Epoch, .int .i64 sB.Lease.Until] ∧ OwnI w2.heap.size 58 9 wx (.slice a0 l.length c0) (flEntry l) ∧ OwnI w4.heap.size 111 2 wx (.slice a2 n2 k2) (flPair sA.Pairs) ∧ OwnI w4.heap.size 92 5 wx (.slice a3 n3 k3) (flJob sA.Jobs) ∧ OwnI w5.heap.size 111 2 wx (.slice a4 n4 k4) (flPair sB.Pairs) ∧ OwnI w5.heap.size 92 5 wx (.slice a5 n5 k5) (flJob sB.Jobs))
      case first =>
        refine wp_region_held_drew (S := fun w' => Upd w w' [g] ∧ Die B w' g ∧ Blk w' ga 38 #[.int .i64 na, .int .i64 sA.Index, .int .i64 sA.Time, .slice a2 n2 k2, .slice a3 n3 k3, .int .i64 sA.Lease.Holder, .int .i64 sA.Lease.Epoch, .int .i64 sA.Lease.Until]) (by kernel_rfl) (by (try dsimp only); exact ⟨(by exact updT), (by exact dieT), (Blk.cast (by exact blkT) setsT)⟩) (fun hHeld => ?_)
        refine wpAnyH_take (i := 1) (v := ?_) rfl (by kernel_rfl) (by kernel_rfl) (by kernel_rfl) (fun _ _ _ h => h) (Or.inl ⟨by rfl, ?_⟩) (by assumption) ?_
        rotate_left
        focus (intro w hSw; (try dsimp only at hSw); have hq := hSw.2.2.cell; go_simp <;> with_reducible rfl)
        (try simp only [List.getElem_toArray, List.getElem_cons_zero, List.getElem_cons_succ, Act.put, List.setIfInBounds_toArray, List.set_cons_zero, List.set_cons_succ])
        refine wpAnyH_ready (rs := [0, 6]) (by kernel_rfl) (by simp) ?_
        refine AllReadyH.cons rfl (fun Kz hKz => ?_) (AllReadyH.cons rfl (fun Kz hKz => ?_) AllReadyH.nil)
        · skip
          (try simp only [List.getElem_toArray, List.getElem_cons_zero, List.getElem_cons_succ])
          go_simp
          go_at_call 10
          refine (newShelf_c _).mono ?_
          rintro e w7 ⟨_, rfl, hx7, gn0⟩
          have hz7 := hx7.size; (try simp only [World.size_alloc, World.size_setCell, size_setRow, size_drew] at hz7)
          have E7 : Upd w w7 [g] := Upd.ext (by exact updT) hx7
          have hc7 : Die B w7 g := Die.ext (by exact dieT) hx7
          have KA7 : Blk w7 ga 38 #[.int .i64 na, .int .i64 sA.Index, .int .i64 sA.Time, .slice a2 n2 k2, .slice a3 n3 k3, .int .i64 sA.Lease.Holder, .int .i64 sA.Lease.Epoch, .int .i64 sA.Lease.Until] := Blk.ext (Blk.cast (by exact blkT) (by first | rfl | simp)) hx7
          have KQ7 : Blk w7 gb 38 #[.int .i64 nb, .int .i64 sB.Index, .int .i64 sB.Time, .slice a4 n4 k4, .slice a5 n5 k5, .int .i64 sB.Lease.Holder, .int .i64 sB.Lease.Epoch, .int .i64 sB.Lease.Until] := Blk.ext (Blk.cast (by exact blkT) (by first | rfl | simp)) hx7
          have Ol7 : OwnI w2.heap.size 58 9 w7 (.slice a0 l.length c0) (flEntry l) := OwnI.ext1 (by first | (with_reducible exact Ol6) | (exact ownT)) hx7
          have Op7 : OwnI w4.heap.size 111 2 w7 (.slice a2 n2 k2) (flPair sA.Pairs) := OwnI.ext1 (by first | (with_reducible exact Op6) | (exact ownT)) hx7
          have Oj7 : OwnI w4.heap.size 92 5 w7 (.slice a3 n3 k3) (flJob sA.Jobs) := OwnI.ext1 (by first | (with_reducible exact Oj6) | (exact ownT)) hx7
          have Ou7 : OwnI w5.heap.size 111 2 w7 (.slice a4 n4 k4) (flPair sB.Pairs) := OwnI.ext1 (by first | (with_reducible exact Ou6) | (exact ownT)) hx7
          have Ov7 : OwnI w5.heap.size 92 5 w7 (.slice a5 n5 k5) (flJob sB.Jobs) := OwnI.ext1 (by first | (with_reducible exact Ov6) | (exact ownT)) hx7
          clear hx7
          clear CA6 FA6 LA6 CQ6 FQ6 LQ6
          have CA7 := KA7.cell; have FA7 := KA7.frozen; have LA7 := KA7.lt
          have CQ7 := KQ7.cell; have FQ7 := KQ7.frozen; have LQ7 := KQ7.lt
          have gn := gn0.rd; clear gn0
          obtain ⟨a6, n6, k6, a7, n7, k7, rfl⟩ := gn.shape
          refine hKz.out _ _ (by (try dsimp only); exact ⟨(by exact updT), (by exact dieT), (Blk.cast (by exact blkT) setsT)⟩) (fun hHeld => ?_)
          clear hKz Kz
          (try simp only [List.getElem_toArray, List.getElem_cons_zero, List.getElem_cons_succ, Act.put, List.setIfInBounds_toArray, List.set_cons_zero, List.set_cons_succ])
          refine wpAnyH_ready (rs := [2, 6]) (by kernel_rfl) (by simp) ?_
          refine AllReadyH.cons rfl (fun Kz hKz => ?_) (AllReadyH.cons rfl (fun Kz hKz => ?_) AllReadyH.nil)
          · skip
            (try simp only [List.getElem_toArray, List.getElem_cons_zero, List.getElem_cons_succ])
            go_simp
            go_at_call 9
            refine (shotWrote_k (gn.ext (by exact extT)) (show RdShot _ _ (⟨na, sA⟩ : DShot) from ⟨_, _, rfl, (OwnI.ints (show OwnI w4.heap.size 111 2 _ (.slice a2 n2 k2) (flPair sA.Pairs) from by exact ownT)), (OwnI.ints (show OwnI w4.heap.size 92 5 _ (.slice a3 n3 k3) (flJob sA.Jobs) from by exact ownT))⟩) 1).mono ?_
            rintro e w8 ⟨_, rfl, hx8, vd, rfl, FD, gd⟩
            have hz8 := hx8.size; (try simp only [World.size_alloc, World.size_setCell, size_setRow, size_drew] at hz8)
            have E8 : Upd w w8 [g] := Upd.ext (by exact updT) hx8
            have hc8 : Die B w8 g := Die.ext (by exact dieT) hx8
            have KA8 : Blk w8 ga 38 #[.int .i64 na, .int .i64 sA.Index, .int .i64 sA.Time, .slice a2 n2 k2, .slice a3 n3 k3, .int .i64 sA.Lease.Holder, .int .i64 sA.Lease.Epoch, .int .i64 sA.Lease.Until] := Blk.ext (Blk.cast (by exact blkT) (by first | rfl | simp)) hx8
            have KQ8 : Blk w8 gb 38 #[.int .i64 nb, .int .i64 sB.Index, .int .i64 sB.Time, .slice a4 n4 k4, .slice a5 n5 k5, .int .i64 sB.Lease.Holder, .int .i64 sB.Lease.Epoch, .int .i64 sB.Lease.Until] := Blk.ext (Blk.cast (by exact blkT) (by first | rfl | simp)) hx8
            have Ol8 : OwnI w2.heap.size 58 9 w8 (.slice a0 l.length c0) (flEntry l) := OwnI.ext1 (by first | (with_reducible exact Ol7) | (exact ownT)) hx8
            have Op8 : OwnI w4.heap.size 111 2 w8 (.slice a2 n2 k2) (flPair sA.Pairs) := OwnI.ext1 (by first | (with_reducible exact Op7) | (exact ownT)) hx8
            have Oj8 : OwnI w4.heap.size 92 5 w8 (.slice a3 n3 k3) (flJob sA.Jobs) := OwnI.ext1 (by first | (with_reducible exact Oj7) | (exact ownT)) hx8
            have Ou8 : OwnI w5.heap.size 111 2 w8 (.slice a4 n4 k4) (flPair sB.Pairs) := OwnI.ext1 (by first | (with_reducible exact Ou7) | (exact ownT)) hx8
            have Ov8 : OwnI w5.heap.size 92 5 w8 (.slice a5 n5 k5) (flJob sB.Jobs) := OwnI.ext1 (by first | (with_reducible exact Ov7) | (exact ownT)) hx8
            clear hx8
            clear CA7 FA7 LA7 CQ7 FQ7 LQ7
            have CA8 := KA8.cell; have FA8 := KA8.frozen; have LA8 := KA8.lt
            have CQ8 := KQ8.cell; have FQ8 := KQ8.frozen; have LQ8 := KQ8.lt
            rw [Hhone.out]; rw [← HhD1.out] at gd
            obtain ⟨a8, n8, k8, a9, n9, k9, rfl⟩ := gd.rd.shape
            refine hKz.out _ _ (by (try dsimp only); exact ⟨(by exact updT), (by exact dieT), (Blk.cast (by exact blkT) setsT)⟩) (fun hHeld => ?_)
            clear hKz Kz
            (try simp only [List.getElem_toArray, List.getElem_cons_zero, List.getElem_cons_succ, Act.put, List.setIfInBounds_toArray, List.set_cons_zero, List.set_cons_succ])
            refine wpAnyH_take (i := 3) (v := ?_) rfl (by kernel_rfl) (by kernel_rfl) (by kernel_rfl) (fun _ _ _ h => h) (Or.inl ⟨by rfl, ?_⟩) (by assumption) ?_
            rotate_left
            focus (intro w hSw; (try dsimp only at hSw); go_simp <;> with_reducible rfl)
            (try simp only [List.getElem_toArray, List.getElem_cons_zero, List.getElem_cons_succ, Act.put, List.setIfInBounds_toArray, List.set_cons_zero, List.set_cons_succ])
            refine wpAnyH_take (i := 4) (v := ?_) rfl (by kernel_rfl) (by kernel_rfl) (by kernel_rfl) (fun _ _ _ h => h) (Or.inl ⟨by rfl, ?_⟩) (by assumption) ?_
            rotate_left
            focus (intro w hSw; (try dsimp only at hSw); go_simp <;> with_reducible rfl)
            (try simp only [List.getElem_toArray, List.getElem_cons_zero, List.getElem_cons_succ, Act.put, List.setIfInBounds_toArray, List.set_cons_zero, List.set_cons_succ])
            refine wpAnyH_take (i := 5) (v := ?_) rfl (by kernel_rfl) (by kernel_rfl) (by kernel_rfl) (fun _ _ _ h => h) (Or.inl ⟨by rfl, ?_⟩) (by assumption) ?_
            rotate_left
            focus (intro w hSw; (try dsimp only at hSw); go_simp <;> with_reducible rfl)
            (try simp only [List.getElem_toArray, List.getElem_cons_zero, List.getElem_cons_succ, Act.put, List.setIfInBounds_toArray, List.set_cons_zero, List.set_cons_succ])
            refine wpAnyH_ready (rs := [6]) (by kernel_rfl) (by simp) ?_
            refine AllReadyH.cons rfl (fun Kz hKz => ?_) AllReadyH.nil
            (try simp only [List.getElem_toArray, List.getElem_cons_zero, List.getElem_cons_succ])
            go_simp
            refine hKz.out _ _ (by (try dsimp only); exact ⟨(by exact updT), (by exact dieT), (Blk.cast (by exact blkT) setsT)⟩) (fun hHeld => ?_)
            clear hKz Kz
            (try simp only [List.getElem_toArray, List.getElem_cons_zero, List.getElem_cons_succ, Act.put, List.setIfInBounds_toArray, List.set_cons_zero, List.set_cons_succ])
            refine wpAnyH_ready (rs := [7]) (by kernel_rfl) (by simp) ?_
            refine AllReadyH.cons rfl (fun Kz hKz => ?_) AllReadyH.nil
            (try simp only [List.getElem_toArray, List.getElem_cons_zero, List.getElem_cons_succ])
            go_simp
            refine hKz.out _ _ (by (try dsimp only); exact ⟨(by exact updT), (by exact dieT), (Blk.cast (by exact blkT) setsT)⟩) (fun hHeld => ?_)
            clear hKz Kz
            (try simp only [List.getElem_toArray, List.getElem_cons_zero, List.getElem_cons_succ, Act.put, List.setIfInBounds_toArray, List.set_cons_zero, List.set_cons_succ])
            refine wpAnyH_ready (rs := [8]) (by kernel_rfl) (by simp) ?_
            refine AllReadyH.cons rfl (fun Kz hKz => ?_) AllReadyH.nil
            (try simp only [List.getElem_toArray, List.getElem_cons_zero, List.getElem_cons_succ])
            go_simp
            refine hKz.out _ _ (by (try dsimp only); exact ⟨(by exact updT), (by exact dieT), (Blk.cast (by exact blkT) setsT)⟩) (fun hHeld => ?_)
            clear hKz Kz
            (try simp only [List.getElem_toArray, List.getElem_cons_zero, List.getElem_cons_succ, Act.put, List.setIfInBounds_toArray, List.set_cons_zero, List.set_cons_succ])
            refine wpAnyH_done (by kernel_rfl) ?_ _
            go_wp2_with fail
            go_meet
            case rel => exact ⟨_, _, _, _, _, _, _, _, (by first | rfl | trivial), (by first | rfl | trivial), (by first | omega | (simp only [World.size_alloc, size_drew]; omega)), rfl, (by refine ⟨_, ?_, (OwDisk.ext gd (by exact extT)).is⟩; first | omega | (simp only [World.size_alloc, size_drew]; omega)), (by first | omega | (simp only [World.size_alloc, World.size_setCell, size_setRow, size_drew]; omega)), (Blk.cast (by exact blkT) setsT), (by exact updT), (by exact dieT), (Blk.cast (by exact blkT) setsT), (Blk.cast (by exact blkT) setsT), (by first | (exact OwnI.ext1 Ol8 (by exact extT)) | (with_reducible exact Ol8) | (refine OwnI.drawn Ol8 ?_ (by omega); (exact updT); done)), (by first | (exact OwnI.ext1 Op8 (by exact extT)) | (with_reducible exact Op8) | (refine OwnI.drawn Op8 ?_ (by omega); (exact updT); done)), (by first | (exact OwnI.ext1 Oj8 (by exact extT)) | (with_reducible exact Oj8) | (refine OwnI.drawn Oj8 ?_ (by omega); (exact updT); done)), (by first | (exact OwnI.ext1 Ou8 (by exact extT)) | (with_reducible exact Ou8) | (refine OwnI.drawn Ou8 ?_ (by omega); (exact updT); done)), (by first | (exact OwnI.ext1 Ov8 (by exact extT)) | (with_reducible exact Ov8) | (refine OwnI.drawn Ov8 ?_ (by omega); (exact updT); done))⟩
          · skip
            (try simp only [List.getElem_toArray, List.getElem_cons_zero, List.getElem_cons_succ])
            go_simp
            refine hKz.out _ _ (by (try dsimp only); exact ⟨(by exact updT), (by exact dieT), (Blk.cast (by exact blkT) setsT)⟩) (fun hHeld => ?_)
            clear hKz Kz
            (try simp only [List.getElem_toArray, List.getElem_cons_zero, List.getElem_cons_succ, Act.put, List.setIfInBounds_toArray, List.set_cons_zero, List.set_cons_succ])
            refine wpAnyH_ready (rs := [2]) (by kernel_rfl) (by simp) ?_
            refine AllReadyH.cons rfl (fun Kz hKz => ?_) AllReadyH.nil
            (try simp only [List.getElem_toArray, List.getElem_cons_zero, List.getElem_cons_succ])
            go_simp
            go_at_call 9
            refine (shotWrote_k (gn.ext (by exact extT)) (show RdShot _ _ (⟨na, sA⟩ : DShot) from ⟨_, _, rfl, (OwnI.ints (show OwnI w4.heap.size 111 2 _ (.slice a2 n2 k2) (flPair sA.Pairs) from by exact ownT)), (OwnI.ints (show OwnI w4.heap.size 92 5 _ (.slice a3 n3 k3) (flJob sA.Jobs) from by exact ownT))⟩) 1).mono ?_
            rintro e w8 ⟨_, rfl, hx8, vd, rfl, FD, gd⟩
            have hz8 := hx8.size; (try simp only [World.size_alloc, World.size_setCell, size_setRow, size_drew] at hz8)
            have E8 : Upd w w8 [g] := Upd.ext (by exact updT) hx8
            have hc8 : Die B w8 g := Die.ext (by exact dieT) hx8
            have KA8 : Blk w8 ga 38 #[.int .i64 na, .int .i64 sA.Index, .int .i64 sA.Time, .slice a2 n2 k2, .slice a3 n3 k3, .int .i64 sA.Lease.Holder, .int .i64 sA.Lease.Epoch, .int .i64 sA.Lease.Until] := Blk.ext (Blk.cast (by exact blkT) (by first | rfl | simp)) hx8
            have KQ8 : Blk w8 gb 38 #[.int .i64 nb, .int .i64 sB.Index, .int .i64 sB.Time, .slice a4 n4 k4, .slice a5 n5 k5, .int .i64 sB.Lease.Holder, .int .i64 sB.Lease.Epoch, .int .i64 sB.Lease.Until] := Blk.ext (Blk.cast (by exact blkT) (by first | rfl | simp)) hx8
            have KD8 : Blk w8 w7.heap.size 42 #[.slice none 0 0, .slice none 0 0] := Blk.ext (Blk.cast (by exact blkT) (by first | rfl | simp)) hx8
            have Ol8 : OwnI w2.heap.size 58 9 w8 (.slice a0 l.length c0) (flEntry l) := OwnI.ext1 (by first | (with_reducible exact Ol7) | (refine OwnI.updX Ol7 KD7 (by decide) ?_; (exact updT); done) | (exact ownT)) hx8
            have Op8 : OwnI w4.heap.size 111 2 w8 (.slice a2 n2 k2) (flPair sA.Pairs) := OwnI.ext1 (by first | (with_reducible exact Op7) | (refine OwnI.updX Op7 KD7 (by decide) ?_; (exact updT); done) | (exact ownT)) hx8
            have Oj8 : OwnI w4.heap.size 92 5 w8 (.slice a3 n3 k3) (flJob sA.Jobs) := OwnI.ext1 (by first | (with_reducible exact Oj7) | (refine OwnI.updX Oj7 KD7 (by decide) ?_; (exact updT); done) | (exact ownT)) hx8
            have Ou8 : OwnI w5.heap.size 111 2 w8 (.slice a4 n4 k4) (flPair sB.Pairs) := OwnI.ext1 (by first | (with_reducible exact Ou7) | (refine OwnI.updX Ou7 KD7 (by decide) ?_; (exact updT); done) | (exact ownT)) hx8
            have Ov8 : OwnI w5.heap.size 92 5 w8 (.slice a5 n5 k5) (flJob sB.Jobs) := OwnI.ext1 (by first | (with_reducible exact Ov7) | (refine OwnI.updX Ov7 KD7 (by decide) ?_; (exact updT); done) | (exact ownT)) hx8
            clear hx8
            clear CA7 FA7 LA7 CQ7 FQ7 LQ7
            have CA8 := KA8.cell; have FA8 := KA8.frozen; have LA8 := KA8.lt
            have CQ8 := KQ8.cell; have FQ8 := KQ8.frozen; have LQ8 := KQ8.lt
            have CD8 := KD8.cell; have FD8 := KD8.frozen; have LD8 := KD8.lt
            rw [Hhone.out]; rw [← HhD1.out] at gd
            obtain ⟨a8, n8, k8, a9, n9, k9, rfl⟩ := gd.rd.shape
            refine hKz.out _ _ (by (try dsimp only); exact ⟨(by exact updT), (by exact dieT), (Blk.cast (by exact blkT) setsT)⟩) (fun hHeld => ?_)
            clear hKz Kz
            (try simp only [List.getElem_toArray, List.getElem_cons_zero, List.getElem_cons_succ, Act.put, List.setIfInBounds_toArray, List.set_cons_zero, List.set_cons_succ])
            refine wpAnyH_take (i := 3) (v := ?_) rfl (by kernel_rfl) (by kernel_rfl) (by kernel_rfl) (fun _ _ _ h => h) (Or.inl ⟨by rfl, ?_⟩) (by assumption) ?_
            rotate_left
            focus (intro w hSw; (try dsimp only at hSw); go_simp <;> with_reducible rfl)
            (try simp only [List.getElem_toArray, List.getElem_cons_zero, List.getElem_cons_succ, Act.put, List.setIfInBounds_toArray, List.set_cons_zero, List.set_cons_succ])
            refine wpAnyH_take (i := 4) (v := ?_) rfl (by kernel_rfl) (by kernel_rfl) (by kernel_rfl) (fun _ _ _ h => h) (Or.inl ⟨by rfl, ?_⟩) (by assumption) ?_
            rotate_left
            focus (intro w hSw; (try dsimp only at hSw); go_simp <;> with_reducible rfl)
            (try simp only [List.getElem_toArray, List.getElem_cons_zero, List.getElem_cons_succ, Act.put, List.setIfInBounds_toArray, List.set_cons_zero, List.set_cons_succ])
            refine wpAnyH_take (i := 5) (v := ?_) rfl (by kernel_rfl) (by kernel_rfl) (by kernel_rfl) (fun _ _ _ h => h) (Or.inl ⟨by rfl, ?_⟩) (by assumption) ?_
            rotate_left
            focus (intro w hSw; (try dsimp only at hSw); go_simp <;> with_reducible rfl)
            (try simp only [List.getElem_toArray, List.getElem_cons_zero, List.getElem_cons_succ, Act.put, List.setIfInBounds_toArray, List.set_cons_zero, List.set_cons_succ])
            refine wpAnyH_ready (rs := [7]) (by kernel_rfl) (by simp) ?_
            refine AllReadyH.cons rfl (fun Kz hKz => ?_) AllReadyH.nil
            (try simp only [List.getElem_toArray, List.getElem_cons_zero, List.getElem_cons_succ])
            go_simp
            refine hKz.out _ _ (by (try dsimp only); exact ⟨(by exact updT), (by exact dieT), (Blk.cast (by exact blkT) setsT)⟩) (fun hHeld => ?_)
            clear hKz Kz
            (try simp only [List.getElem_toArray, List.getElem_cons_zero, List.getElem_cons_succ, Act.put, List.setIfInBounds_toArray, List.set_cons_zero, List.set_cons_succ])
            refine wpAnyH_ready (rs := [8]) (by kernel_rfl) (by simp) ?_
            refine AllReadyH.cons rfl (fun Kz hKz => ?_) AllReadyH.nil
            (try simp only [List.getElem_toArray, List.getElem_cons_zero, List.getElem_cons_succ])
            go_simp
            refine hKz.out _ _ (by (try dsimp only); exact ⟨(by exact updT), (by exact dieT), (Blk.cast (by exact blkT) setsT)⟩) (fun hHeld => ?_)
            clear hKz Kz
            (try simp only [List.getElem_toArray, List.getElem_cons_zero, List.getElem_cons_succ, Act.put, List.setIfInBounds_toArray, List.set_cons_zero, List.set_cons_succ])
            refine wpAnyH_done (by kernel_rfl) ?_ _
            go_wp2_with fail
            go_meet
            case rel => exact ⟨_, _, _, _, _, _, _, _, (by first | rfl | trivial), (by first | rfl | trivial), (by first | omega | (simp only [World.size_alloc, size_drew]; omega)), rfl, (by refine ⟨_, ?_, (OwDisk.box (OwDisk.box gd KD8 0 _) (Blk.set_ KD8 0 _) 1 _).is⟩; first | omega | (simp only [World.size_alloc, size_drew]; omega)), (by first | omega | (simp only [World.size_alloc, World.size_setCell, size_setRow, size_drew]; omega)), (Blk.cast (by exact blkT) setsT), (by exact updT), (by exact dieT), (Blk.cast (by exact blkT) setsT), (Blk.cast (by exact blkT) setsT), (by first | (exact OwnI.ext1 Ol8 (by exact extT)) | (with_reducible exact Ol8) | (refine OwnI.drawn Ol8 ?_ (by omega); (exact updT); done) | (refine OwnI.updX Ol8 KD8 (by decide) ?_; (exact updT); done)), (by first | (exact OwnI.ext1 Op8 (by exact extT)) | (with_reducible exact Op8) | (refine OwnI.drawn Op8 ?_ (by omega); (exact updT); done) | (refine OwnI.updX Op8 KD8 (by decide) ?_; (exact updT); done)), (by first | (exact OwnI.ext1 Oj8 (by exact extT)) | (with_reducible exact Oj8) | (refine OwnI.drawn Oj8 ?_ (by omega); (exact updT); done) | (refine OwnI.updX Oj8 KD8 (by decide) ?_; (exact updT); done)), (by first | (exact OwnI.ext1 Ou8 (by exact extT)) | (with_reducible exact Ou8) | (refine OwnI.drawn Ou8 ?_ (by omega); (exact updT); done) | (refine OwnI.updX Ou8 KD8 (by decide) ?_; (exact updT); done)), (by first | (exact OwnI.ext1 Ov8 (by exact extT)) | (with_reducible exact Ov8) | (refine OwnI.drawn Ov8 ?_ (by omega); (exact updT); done) | (refine OwnI.updX Ov8 KD8 (by decide) ?_; (exact updT); done))⟩
        · skip
          (try simp only [List.getElem_toArray, List.getElem_cons_zero, List.getElem_cons_succ])
          go_simp
          refine hKz.out _ _ (by (try dsimp only); exact ⟨(by exact updT), (by exact dieT), (Blk.cast (by exact blkT) setsT)⟩) (fun hHeld => ?_)
          clear hKz Kz
          (try simp only [List.getElem_toArray, List.getElem_cons_zero, List.getElem_cons_succ, Act.put, List.setIfInBounds_toArray, List.set_cons_zero, List.set_cons_succ])
          refine wpAnyH_ready (rs := [0]) (by kernel_rfl) (by simp) ?_
          refine AllReadyH.cons rfl (fun Kz hKz => ?_) AllReadyH.nil
          (try simp only [List.getElem_toArray, List.getElem_cons_zero, List.getElem_cons_succ])
          go_simp
          go_at_call 10
          refine (newShelf_c _).mono ?_
          rintro e w7 ⟨_, rfl, hx7, gn0⟩
          have hz7 := hx7.size; (try simp only [World.size_alloc, World.size_setCell, size_setRow, size_drew] at hz7)
          have E7 : Upd w w7 [g] := Upd.ext (by exact updT) hx7
          have hc7 : Die B w7 g := Die.ext (by exact dieT) hx7
          have KA7 : Blk w7 ga 38 #[.int .i64 na, .int .i64 sA.Index, .int .i64 sA.Time, .slice a2 n2 k2, .slice a3 n3 k3, .int .i64 sA.Lease.Holder, .int .i64 sA.Lease.Epoch, .int .i64 sA.Lease.Until] := Blk.ext (Blk.cast (by exact blkT) (by first | rfl | simp)) hx7
          have KQ7 : Blk w7 gb 38 #[.int .i64 nb, .int .i64 sB.Index, .int .i64 sB.Time, .slice a4 n4 k4, .slice a5 n5 k5, .int .i64 sB.Lease.Holder, .int .i64 sB.Lease.Epoch, .int .i64 sB.Lease.Until] := Blk.ext (Blk.cast (by exact blkT) (by first | rfl | simp)) hx7
          have KD7 : Blk w7 w6.heap.size 42 #[.slice none 0 0, .slice none 0 0] := Blk.ext (Blk.cast (by exact blkT) (by first | rfl | simp)) hx7
          have Ol7 : OwnI w2.heap.size 58 9 w7 (.slice a0 l.length c0) (flEntry l) := OwnI.ext1 (by first | (with_reducible exact Ol6) | (refine OwnI.updX Ol6 KD6 (by decide) ?_; (exact updT); done) | (exact ownT)) hx7
          have Op7 : OwnI w4.heap.size 111 2 w7 (.slice a2 n2 k2) (flPair sA.Pairs) := OwnI.ext1 (by first | (with_reducible exact Op6) | (refine OwnI.updX Op6 KD6 (by decide) ?_; (exact updT); done) | (exact ownT)) hx7
          have Oj7 : OwnI w4.heap.size 92 5 w7 (.slice a3 n3 k3) (flJob sA.Jobs) := OwnI.ext1 (by first | (with_reducible exact Oj6) | (refine OwnI.updX Oj6 KD6 (by decide) ?_; (exact updT); done) | (exact ownT)) hx7
          have Ou7 : OwnI w5.heap.size 111 2 w7 (.slice a4 n4 k4) (flPair sB.Pairs) := OwnI.ext1 (by first | (with_reducible exact Ou6) | (refine OwnI.updX Ou6 KD6 (by decide) ?_; (exact updT); done) | (exact ownT)) hx7
          have Ov7 : OwnI w5.heap.size 92 5 w7 (.slice a5 n5 k5) (flJob sB.Jobs) := OwnI.ext1 (by first | (with_reducible exact Ov6) | (refine OwnI.updX Ov6 KD6 (by decide) ?_; (exact updT); done) | (exact ownT)) hx7
          clear hx7
          clear CA6 FA6 LA6 CQ6 FQ6 LQ6
          have CA7 := KA7.cell; have FA7 := KA7.frozen; have LA7 := KA7.lt
          have CQ7 := KQ7.cell; have FQ7 := KQ7.frozen; have LQ7 := KQ7.lt
          have CD7 := KD7.cell; have FD7 := KD7.frozen; have LD7 := KD7.lt
          have gn := gn0.rd; clear gn0
          obtain ⟨a6, n6, k6, a7, n7, k7, rfl⟩ := gn.shape
          refine hKz.out _ _ (by (try dsimp only); exact ⟨(by exact updT), (by exact dieT), (Blk.cast (by exact blkT) setsT)⟩) (fun hHeld => ?_)
          clear hKz Kz
          (try simp only [List.getElem_toArray, List.getElem_cons_zero, List.getElem_cons_succ, Act.put, List.setIfInBounds_toArray, List.set_cons_zero, List.set_cons_succ])
          refine wpAnyH_ready (rs := [2]) (by kernel_rfl) (by simp) ?_
          refine AllReadyH.cons rfl (fun Kz hKz => ?_) AllReadyH.nil
          (try simp only [List.getElem_toArray, List.getElem_cons_zero, List.getElem_cons_succ])
          go_simp
          go_at_call 9
          refine (shotWrote_k (gn.ext (by exact extT)) (show RdShot _ _ (⟨na, sA⟩ : DShot) from ⟨_, _, rfl, (OwnI.ints (show OwnI w4.heap.size 111 2 _ (.slice a2 n2 k2) (flPair sA.Pairs) from by exact ownT)), (OwnI.ints (show OwnI w4.heap.size 92 5 _ (.slice a3 n3 k3) (flJob sA.Jobs) from by exact ownT))⟩) 1).mono ?_
          rintro e w8 ⟨_, rfl, hx8, vd, rfl, FD, gd⟩
          have hz8 := hx8.size; (try simp only [World.size_alloc, World.size_setCell, size_setRow, size_drew] at hz8)
          have E8 : Upd w w8 [g] := Upd.ext (by exact updT) hx8
          have hc8 : Die B w8 g := Die.ext (by exact dieT) hx8
          have KA8 : Blk w8 ga 38 #[.int .i64 na, .int .i64 sA.Index, .int .i64 sA.Time, .slice a2 n2 k2, .slice a3 n3 k3, .int .i64 sA.Lease.Holder, .int .i64 sA.Lease.Epoch, .int .i64 sA.Lease.Until] := Blk.ext (Blk.cast (by exact blkT) (by first | rfl | simp)) hx8
          have KQ8 : Blk w8 gb 38 #[.int .i64 nb, .int .i64 sB.Index, .int .i64 sB.Time, .slice a4 n4 k4, .slice a5 n5 k5, .int .i64 sB.Lease.Holder, .int .i64 sB.Lease.Epoch, .int .i64 sB.Lease.Until] := Blk.ext (Blk.cast (by exact blkT) (by first | rfl | simp)) hx8
          have KD8 : Blk w8 w6.heap.size 42 #[.slice none 0 0, .slice none 0 0] := Blk.ext (Blk.cast (by exact blkT) (by first | rfl | simp)) hx8
          have Ol8 : OwnI w2.heap.size 58 9 w8 (.slice a0 l.length c0) (flEntry l) := OwnI.ext1 (by first | (with_reducible exact Ol7) | (refine OwnI.updX Ol7 KD7 (by decide) ?_; (exact updT); done) | (exact ownT)) hx8
          have Op8 : OwnI w4.heap.size 111 2 w8 (.slice a2 n2 k2) (flPair sA.Pairs) := OwnI.ext1 (by first | (with_reducible exact Op7) | (refine OwnI.updX Op7 KD7 (by decide) ?_; (exact updT); done) | (exact ownT)) hx8
          have Oj8 : OwnI w4.heap.size 92 5 w8 (.slice a3 n3 k3) (flJob sA.Jobs) := OwnI.ext1 (by first | (with_reducible exact Oj7) | (refine OwnI.updX Oj7 KD7 (by decide) ?_; (exact updT); done) | (exact ownT)) hx8
          have Ou8 : OwnI w5.heap.size 111 2 w8 (.slice a4 n4 k4) (flPair sB.Pairs) := OwnI.ext1 (by first | (with_reducible exact Ou7) | (refine OwnI.updX Ou7 KD7 (by decide) ?_; (exact updT); done) | (exact ownT)) hx8
          have Ov8 : OwnI w5.heap.size 92 5 w8 (.slice a5 n5 k5) (flJob sB.Jobs) := OwnI.ext1 (by first | (with_reducible exact Ov7) | (refine OwnI.updX Ov7 KD7 (by decide) ?_; (exact updT); done) | (exact ownT)) hx8
          clear hx8
          clear CA7 FA7 LA7 CQ7 FQ7 LQ7 CD7 FD7 LD7
          have CA8 := KA8.cell; have FA8 := KA8.frozen; have LA8 := KA8.lt
          have CQ8 := KQ8.cell; have FQ8 := KQ8.frozen; have LQ8 := KQ8.lt
          have CD8 := KD8.cell; have FD8 := KD8.frozen; have LD8 := KD8.lt
          rw [Hhone.out]; rw [← HhD1.out] at gd
          obtain ⟨a8, n8, k8, a9, n9, k9, rfl⟩ := gd.rd.shape
          refine hKz.out _ _ (by (try dsimp only); exact ⟨(by exact updT), (by exact dieT), (Blk.cast (by exact blkT) setsT)⟩) (fun hHeld => ?_)
          clear hKz Kz
          (try simp only [List.getElem_toArray, List.getElem_cons_zero, List.getElem_cons_succ, Act.put, List.setIfInBounds_toArray, List.set_cons_zero, List.set_cons_succ])
          refine wpAnyH_take (i := 3) (v := ?_) rfl (by kernel_rfl) (by kernel_rfl) (by kernel_rfl) (fun _ _ _ h => h) (Or.inl ⟨by rfl, ?_⟩) (by assumption) ?_
          rotate_left
          focus (intro w hSw; (try dsimp only at hSw); go_simp <;> with_reducible rfl)
          (try simp only [List.getElem_toArray, List.getElem_cons_zero, List.getElem_cons_succ, Act.put, List.setIfInBounds_toArray, List.set_cons_zero, List.set_cons_succ])
          refine wpAnyH_take (i := 4) (v := ?_) rfl (by kernel_rfl) (by kernel_rfl) (by kernel_rfl) (fun _ _ _ h => h) (Or.inl ⟨by rfl, ?_⟩) (by assumption) ?_
          rotate_left
          focus (intro w hSw; (try dsimp only at hSw); go_simp <;> with_reducible rfl)
          (try simp only [List.getElem_toArray, List.getElem_cons_zero, List.getElem_cons_succ, Act.put, List.setIfInBounds_toArray, List.set_cons_zero, List.set_cons_succ])
          refine wpAnyH_take (i := 5) (v := ?_) rfl (by kernel_rfl) (by kernel_rfl) (by kernel_rfl) (fun _ _ _ h => h) (Or.inl ⟨by rfl, ?_⟩) (by assumption) ?_
          rotate_left
          focus (intro w hSw; (try dsimp only at hSw); go_simp <;> with_reducible rfl)
          (try simp only [List.getElem_toArray, List.getElem_cons_zero, List.getElem_cons_succ, Act.put, List.setIfInBounds_toArray, List.set_cons_zero, List.set_cons_succ])
          refine wpAnyH_ready (rs := [7]) (by kernel_rfl) (by simp) ?_
          refine AllReadyH.cons rfl (fun Kz hKz => ?_) AllReadyH.nil
          (try simp only [List.getElem_toArray, List.getElem_cons_zero, List.getElem_cons_succ])
          go_simp
          refine hKz.out _ _ (by (try dsimp only); exact ⟨(by exact updT), (by exact dieT), (Blk.cast (by exact blkT) setsT)⟩) (fun hHeld => ?_)
          clear hKz Kz
          (try simp only [List.getElem_toArray, List.getElem_cons_zero, List.getElem_cons_succ, Act.put, List.setIfInBounds_toArray, List.set_cons_zero, List.set_cons_succ])
          refine wpAnyH_ready (rs := [8]) (by kernel_rfl) (by simp) ?_
          refine AllReadyH.cons rfl (fun Kz hKz => ?_) AllReadyH.nil
          (try simp only [List.getElem_toArray, List.getElem_cons_zero, List.getElem_cons_succ])
          go_simp
          refine hKz.out _ _ (by (try dsimp only); exact ⟨(by exact updT), (by exact dieT), (Blk.cast (by exact blkT) setsT)⟩) (fun hHeld => ?_)
          clear hKz Kz
          (try simp only [List.getElem_toArray, List.getElem_cons_zero, List.getElem_cons_succ, Act.put, List.setIfInBounds_toArray, List.set_cons_zero, List.set_cons_succ])
          refine wpAnyH_done (by kernel_rfl) ?_ _
          go_wp2_with fail
          go_meet
          case rel => exact ⟨_, _, _, _, _, _, _, _, (by first | rfl | trivial), (by first | rfl | trivial), (by first | omega | (simp only [World.size_alloc, size_drew]; omega)), rfl, (by refine ⟨_, ?_, (OwDisk.box (OwDisk.box gd KD8 0 _) (Blk.set_ KD8 0 _) 1 _).is⟩; first | omega | (simp only [World.size_alloc, size_drew]; omega)), (by first | omega | (simp only [World.size_alloc, World.size_setCell, size_setRow, size_drew]; omega)), (Blk.cast (by exact blkT) setsT), (by exact updT), (by exact dieT), (Blk.cast (by exact blkT) setsT), (Blk.cast (by exact blkT) setsT), (by first | (exact OwnI.ext1 Ol8 (by exact extT)) | (with_reducible exact Ol8) | (refine OwnI.drawn Ol8 ?_ (by omega); (exact updT); done) | (refine OwnI.updX Ol8 KD8 (by decide) ?_; (exact updT); done)), (by first | (exact OwnI.ext1 Op8 (by exact extT)) | (with_reducible exact Op8) | (refine OwnI.drawn Op8 ?_ (by omega); (exact updT); done) | (refine OwnI.updX Op8 KD8 (by decide) ?_; (exact updT); done)), (by first | (exact OwnI.ext1 Oj8 (by exact extT)) | (with_reducible exact Oj8) | (refine OwnI.drawn Oj8 ?_ (by omega); (exact updT); done) | (refine OwnI.updX Oj8 KD8 (by decide) ?_; (exact updT); done)), (by first | (exact OwnI.ext1 Ou8 (by exact extT)) | (with_reducible exact Ou8) | (refine OwnI.drawn Ou8 ?_ (by omega); (exact updT); done) | (refine OwnI.updX Ou8 KD8 (by decide) ?_; (exact updT); done)), (by first | (exact OwnI.ext1 Ov8 (by exact extT)) | (with_reducible exact Ov8) | (refine OwnI.drawn Ov8 ?_ (by omega); (exact updT); done) | (refine OwnI.updX Ov8 KD8 (by decide) ?_; (exact updT); done))⟩
      case rest =>
        revert wc; intro w7 hcut
        obtain ⟨gD, one, a8, n8, k8, a9, n9, k9, rfl, rfl, hgD, hone9, gD1, hzcr10, KD7, E7, hc7, KA7, KQ7, Ol7, Op7, Oj7, Ou7, Ov7⟩ := hcut
        have hz7 := E7.size
        clear CA6 FA6 LA6 CQ6 FQ6 LQ6
        have CA7 := KA7.cell; have FA7 := KA7.frozen; have LA7 := KA7.lt
        have CQ7 := KQ7.cell; have FQ7 := KQ7.frozen; have LQ7 := KQ7.lt
        have CD7 := KD7.cell; have FD7 := KD7.frozen; have LD7 := KD7.lt
        subst hone9
        obtain ⟨Bd, hBd, gD1⟩ := gD1
        go_upto_region 11 with (fail)
        have RD1 := RdDisk.get gD1.rd
        go_cut [10] (fun cx0 wx => ∃ two : Bool, ∃ a10 : Option Addr, ∃ n10 : Nat, ∃ k10 : Nat, ∃ a11 : Option Addr, ∃ n11 : Nat, ∃ k11 : Nat, cx0 = .bool two ∧ (two = true) ∧ (∃ Bd, g < Bd ∧ IsDisk Bd wx (.agg #[.slice a10 n10 k10, .slice a11 n11 k11]) D3) ∧ (w7.heap.size ≤ wx.heap.size) ∧ Blk wx gD 42 #[.slice a10 n10 k10, .slice a11 n11 k11] ∧ Upd w wx [g] ∧ Die B wx g ∧ Blk wx ga 38 #[.int .i64 na, .int .i64 sA.Index, .int .i64 sA.Time, .slice a2 n2 k2, .slice a3 n3 k3, .int .i64 sA.Lease.Holder, .int .i64 sA.Lease.Epoch, .int .i64 sA.Lease.Until] ∧ Blk wx gb 38 #[.int .i64 nb, .int .i64 sB.Index, .int .i64 sB.Time, .slice a4 n4 k4, .slice a5 n5 k5, .int .i64 sB.Lease.Holder, .int .i64 sB.Lease.Epoch, .int .i64 sB.Lease.Until] ∧ OwnI w2.heap.size 58 9 wx (.slice a0 l.length c0) (flEntry l) ∧ OwnI w4.heap.size 111 2 wx (.slice a2 n2 k2) (flPair sA.Pairs) ∧ OwnI w4.heap.size 92 5 wx (.slice a3 n3 k3) (flJob sA.Jobs) ∧ OwnI w5.heap.size 111 2 wx (.slice a4 n4 k4) (flPair sB.Pairs) ∧ OwnI w5.heap.size 92 5 wx (.slice a5 n5 k5) (flJob sB.Jobs))
        case first =>
          refine wp_region_held_drew (S := fun w' => Upd w w' [g] ∧ Die B w' g ∧ Blk w' gb 38 #[.int .i64 nb, .int .i64 sB.Index, .int .i64 sB.Time, .slice a4 n4 k4, .slice a5 n5 k5, .int .i64 sB.Lease.Holder, .int .i64 sB.Lease.Epoch, .int .i64 sB.Lease.Until]) (by kernel_rfl) (by (try dsimp only); exact ⟨(by exact updT), (by exact dieT), (Blk.cast (by exact blkT) setsT)⟩) (fun hHeld => ?_)
          refine wpAnyH_take (i := 2) (v := ?_) rfl (by kernel_rfl) (by kernel_rfl) (by kernel_rfl) (fun _ _ _ h => h) (Or.inl ⟨by rfl, ?_⟩) (by assumption) ?_
          rotate_left
          focus (intro w hSw; (try dsimp only at hSw); have hq := hSw.2.2.cell; go_simp <;> with_reducible rfl)
          (try simp only [List.getElem_toArray, List.getElem_cons_zero, List.getElem_cons_succ, Act.put, List.setIfInBounds_toArray, List.set_cons_zero, List.set_cons_succ])
          refine wpAnyH_ready (rs := [0]) (by kernel_rfl) (by simp) ?_
          refine AllReadyH.cons rfl (fun Kz hKz => ?_) AllReadyH.nil
          (try simp only [List.getElem_toArray, List.getElem_cons_zero, List.getElem_cons_succ])
          go_simp
          refine hKz.out _ _ (by (try dsimp only); exact ⟨(by exact updT), (by exact dieT), (Blk.cast (by exact blkT) setsT)⟩) (fun hHeld => ?_)
          clear hKz Kz
          (try simp only [List.getElem_toArray, List.getElem_cons_zero, List.getElem_cons_succ, Act.put, List.setIfInBounds_toArray, List.set_cons_zero, List.set_cons_succ])
          refine wpAnyH_ready (rs := [1]) (by kernel_rfl) (by simp) ?_
          refine AllReadyH.cons rfl (fun Kz hKz => ?_) AllReadyH.nil
          (try simp only [List.getElem_toArray, List.getElem_cons_zero, List.getElem_cons_succ])
          go_simp
          go_at_call 11
          refine (synced_c _ _ _ _ _ (RD1.1.ext (by exact extT)) (RD1.2.ext (by exact extT))).mono ?_
          rintro e w8 ⟨_, rfl, hx8, gy0⟩
          have hz8 := hx8.size; (try simp only [World.size_alloc, World.size_setCell, size_setRow, size_drew] at hz8)
          have E8 : Upd w w8 [g] := Upd.ext (by exact updT) hx8
          have hc8 : Die B w8 g := Die.ext (by exact dieT) hx8
          have KA8 : Blk w8 ga 38 #[.int .i64 na, .int .i64 sA.Index, .int .i64 sA.Time, .slice a2 n2 k2, .slice a3 n3 k3, .int .i64 sA.Lease.Holder, .int .i64 sA.Lease.Epoch, .int .i64 sA.Lease.Until] := Blk.ext (Blk.cast (by exact blkT) (by first | rfl | simp)) hx8
          have KQ8 : Blk w8 gb 38 #[.int .i64 nb, .int .i64 sB.Index, .int .i64 sB.Time, .slice a4 n4 k4, .slice a5 n5 k5, .int .i64 sB.Lease.Holder, .int .i64 sB.Lease.Epoch, .int .i64 sB.Lease.Until] := Blk.ext (Blk.cast (by exact blkT) (by first | rfl | simp)) hx8
          have KD8 : Blk w8 gD 42 #[.slice a8 n8 k8, .slice a9 n9 k9] := Blk.ext (Blk.cast (by exact blkT) (by first | rfl | simp)) hx8
          have Ol8 : OwnI w2.heap.size 58 9 w8 (.slice a0 l.length c0) (flEntry l) := OwnI.ext1 (by first | (with_reducible exact Ol7) | (refine OwnI.updX Ol7 KD7 (by decide) ?_; (exact updT); done) | (exact ownT)) hx8
          have Op8 : OwnI w4.heap.size 111 2 w8 (.slice a2 n2 k2) (flPair sA.Pairs) := OwnI.ext1 (by first | (with_reducible exact Op7) | (refine OwnI.updX Op7 KD7 (by decide) ?_; (exact updT); done) | (exact ownT)) hx8
          have Oj8 : OwnI w4.heap.size 92 5 w8 (.slice a3 n3 k3) (flJob sA.Jobs) := OwnI.ext1 (by first | (with_reducible exact Oj7) | (refine OwnI.updX Oj7 KD7 (by decide) ?_; (exact updT); done) | (exact ownT)) hx8
          have Ou8 : OwnI w5.heap.size 111 2 w8 (.slice a4 n4 k4) (flPair sB.Pairs) := OwnI.ext1 (by first | (with_reducible exact Ou7) | (refine OwnI.updX Ou7 KD7 (by decide) ?_; (exact updT); done) | (exact ownT)) hx8
          have Ov8 : OwnI w5.heap.size 92 5 w8 (.slice a5 n5 k5) (flJob sB.Jobs) := OwnI.ext1 (by first | (with_reducible exact Ov7) | (refine OwnI.updX Ov7 KD7 (by decide) ?_; (exact updT); done) | (exact ownT)) hx8
          clear hx8
          clear CA7 FA7 LA7 CQ7 FQ7 LQ7 CD7 FD7 LD7
          have CA8 := KA8.cell; have FA8 := KA8.frozen; have LA8 := KA8.lt
          have CQ8 := KQ8.cell; have FQ8 := KQ8.frozen; have LQ8 := KQ8.lt
          have CD8 := KD8.cell; have FD8 := KD8.frozen; have LD8 := KD8.lt
          have gy := gy0.rd; rw [show (⟨D1.Kept, D1.Wait⟩ : DDisk) = D1 from rfl, ← HhD2.out] at gy
          clear gy0
          obtain ⟨a6, n6, k6, a7, n7, k7, rfl⟩ := gy.shape
          refine hKz.out _ _ (by (try dsimp only); exact ⟨(by exact updT), (by exact dieT), (Blk.cast (by exact blkT) setsT)⟩) (fun hHeld => ?_)
          clear hKz Kz
          (try simp only [List.getElem_toArray, List.getElem_cons_zero, List.getElem_cons_succ, Act.put, List.setIfInBounds_toArray, List.set_cons_zero, List.set_cons_succ])
          refine wpAnyH_ready (rs := [3]) (by kernel_rfl) (by simp) ?_
          refine AllReadyH.cons rfl (fun Kz hKz => ?_) AllReadyH.nil
          (try simp only [List.getElem_toArray, List.getElem_cons_zero, List.getElem_cons_succ])
          go_simp
          go_at_call 9
          refine (shotWrote_k (gy.ext (by exact extT)) (show RdShot _ _ (⟨nb, sB⟩ : DShot) from ⟨_, _, rfl, (OwnI.ints (show OwnI w5.heap.size 111 2 _ (.slice a4 n4 k4) (flPair sB.Pairs) from by exact ownT)), (OwnI.ints (show OwnI w5.heap.size 92 5 _ (.slice a5 n5 k5) (flJob sB.Jobs) from by exact ownT))⟩) 1).mono ?_
          rintro e w9 ⟨_, rfl, hx9, vd, rfl, FD, gd⟩
          have hz9 := hx9.size; (try simp only [World.size_alloc, World.size_setCell, size_setRow, size_drew] at hz9)
          have E9 : Upd w w9 [g] := Upd.ext (by exact updT) hx9
          have hc9 : Die B w9 g := Die.ext (by exact dieT) hx9
          have KA9 : Blk w9 ga 38 #[.int .i64 na, .int .i64 sA.Index, .int .i64 sA.Time, .slice a2 n2 k2, .slice a3 n3 k3, .int .i64 sA.Lease.Holder, .int .i64 sA.Lease.Epoch, .int .i64 sA.Lease.Until] := Blk.ext (Blk.cast (by exact blkT) (by first | rfl | simp)) hx9
          have KQ9 : Blk w9 gb 38 #[.int .i64 nb, .int .i64 sB.Index, .int .i64 sB.Time, .slice a4 n4 k4, .slice a5 n5 k5, .int .i64 sB.Lease.Holder, .int .i64 sB.Lease.Epoch, .int .i64 sB.Lease.Until] := Blk.ext (Blk.cast (by exact blkT) (by first | rfl | simp)) hx9
          have KD9 : Blk w9 gD 42 #[.slice a8 n8 k8, .slice a9 n9 k9] := Blk.ext (Blk.cast (by exact blkT) (by first | rfl | simp)) hx9
          have Ol9 : OwnI w2.heap.size 58 9 w9 (.slice a0 l.length c0) (flEntry l) := OwnI.ext1 (by first | (with_reducible exact Ol8) | (refine OwnI.updX Ol8 KD8 (by decide) ?_; (exact updT); done) | (exact ownT)) hx9
          have Op9 : OwnI w4.heap.size 111 2 w9 (.slice a2 n2 k2) (flPair sA.Pairs) := OwnI.ext1 (by first | (with_reducible exact Op8) | (refine OwnI.updX Op8 KD8 (by decide) ?_; (exact updT); done) | (exact ownT)) hx9
          have Oj9 : OwnI w4.heap.size 92 5 w9 (.slice a3 n3 k3) (flJob sA.Jobs) := OwnI.ext1 (by first | (with_reducible exact Oj8) | (refine OwnI.updX Oj8 KD8 (by decide) ?_; (exact updT); done) | (exact ownT)) hx9
          have Ou9 : OwnI w5.heap.size 111 2 w9 (.slice a4 n4 k4) (flPair sB.Pairs) := OwnI.ext1 (by first | (with_reducible exact Ou8) | (refine OwnI.updX Ou8 KD8 (by decide) ?_; (exact updT); done) | (exact ownT)) hx9
          have Ov9 : OwnI w5.heap.size 92 5 w9 (.slice a5 n5 k5) (flJob sB.Jobs) := OwnI.ext1 (by first | (with_reducible exact Ov8) | (refine OwnI.updX Ov8 KD8 (by decide) ?_; (exact updT); done) | (exact ownT)) hx9
          clear hx9
          clear CA8 FA8 LA8 CQ8 FQ8 LQ8 CD8 FD8 LD8
          have CA9 := KA9.cell; have FA9 := KA9.frozen; have LA9 := KA9.lt
          have CQ9 := KQ9.cell; have FQ9 := KQ9.frozen; have LQ9 := KQ9.lt
          have CD9 := KD9.cell; have FD9 := KD9.frozen; have LD9 := KD9.lt
          rw [Hhtwo.out]; rw [← HhD3.out] at gd
          obtain ⟨a10, n10, k10, a11, n11, k11, rfl⟩ := gd.rd.shape
          refine hKz.out _ _ (by (try dsimp only); exact ⟨(by exact updT), (by exact dieT), (Blk.cast (by exact blkT) setsT)⟩) (fun hHeld => ?_)
          clear hKz Kz
          (try simp only [List.getElem_toArray, List.getElem_cons_zero, List.getElem_cons_succ, Act.put, List.setIfInBounds_toArray, List.set_cons_zero, List.set_cons_succ])
          refine wpAnyH_take (i := 4) (v := ?_) rfl (by kernel_rfl) (by kernel_rfl) (by kernel_rfl) (fun _ _ _ h => h) (Or.inl ⟨by rfl, ?_⟩) (by assumption) ?_
          rotate_left
          focus (intro w hSw; (try dsimp only at hSw); go_simp <;> with_reducible rfl)
          (try simp only [List.getElem_toArray, List.getElem_cons_zero, List.getElem_cons_succ, Act.put, List.setIfInBounds_toArray, List.set_cons_zero, List.set_cons_succ])
          refine wpAnyH_take (i := 5) (v := ?_) rfl (by kernel_rfl) (by kernel_rfl) (by kernel_rfl) (fun _ _ _ h => h) (Or.inl ⟨by rfl, ?_⟩) (by assumption) ?_
          rotate_left
          focus (intro w hSw; (try dsimp only at hSw); go_simp <;> with_reducible rfl)
          (try simp only [List.getElem_toArray, List.getElem_cons_zero, List.getElem_cons_succ, Act.put, List.setIfInBounds_toArray, List.set_cons_zero, List.set_cons_succ])
          refine wpAnyH_take (i := 6) (v := ?_) rfl (by kernel_rfl) (by kernel_rfl) (by kernel_rfl) (fun _ _ _ h => h) (Or.inl ⟨by rfl, ?_⟩) (by assumption) ?_
          rotate_left
          focus (intro w hSw; (try dsimp only at hSw); go_simp <;> with_reducible rfl)
          (try simp only [List.getElem_toArray, List.getElem_cons_zero, List.getElem_cons_succ, Act.put, List.setIfInBounds_toArray, List.set_cons_zero, List.set_cons_succ])
          refine wpAnyH_ready (rs := [7]) (by kernel_rfl) (by simp) ?_
          refine AllReadyH.cons rfl (fun Kz hKz => ?_) AllReadyH.nil
          (try simp only [List.getElem_toArray, List.getElem_cons_zero, List.getElem_cons_succ])
          go_simp
          refine hKz.out _ _ (by (try dsimp only); exact ⟨(by exact updT), (by exact dieT), (Blk.cast (by exact blkT) setsT)⟩) (fun hHeld => ?_)
          clear hKz Kz
          (try simp only [List.getElem_toArray, List.getElem_cons_zero, List.getElem_cons_succ, Act.put, List.setIfInBounds_toArray, List.set_cons_zero, List.set_cons_succ])
          refine wpAnyH_ready (rs := [8]) (by kernel_rfl) (by simp) ?_
          refine AllReadyH.cons rfl (fun Kz hKz => ?_) AllReadyH.nil
          (try simp only [List.getElem_toArray, List.getElem_cons_zero, List.getElem_cons_succ])
          go_simp
          refine hKz.out _ _ (by (try dsimp only); exact ⟨(by exact updT), (by exact dieT), (Blk.cast (by exact blkT) setsT)⟩) (fun hHeld => ?_)
          clear hKz Kz
          (try simp only [List.getElem_toArray, List.getElem_cons_zero, List.getElem_cons_succ, Act.put, List.setIfInBounds_toArray, List.set_cons_zero, List.set_cons_succ])
          refine wpAnyH_done (by kernel_rfl) ?_ _
          go_wp2_with fail
          go_meet
          case rel => exact ⟨_, _, _, _, _, _, _, (by first | rfl | trivial), rfl, (by refine ⟨_, ?_, (OwDisk.box (OwDisk.box gd KD9 0 _) (Blk.set_ KD9 0 _) 1 _).is⟩; first | omega | (simp only [World.size_alloc, size_drew]; omega)), (by first | omega | (simp only [World.size_alloc, World.size_setCell, size_setRow, size_drew]; omega)), (Blk.cast (by exact blkT) setsT), (by exact updT), (by exact dieT), (Blk.cast (by exact blkT) setsT), (Blk.cast (by exact blkT) setsT), (by first | (exact OwnI.ext1 Ol9 (by exact extT)) | (with_reducible exact Ol9) | (refine OwnI.drawn Ol9 ?_ (by omega); (exact updT); done) | (refine OwnI.updX Ol9 KD9 (by decide) ?_; (exact updT); done)), (by first | (exact OwnI.ext1 Op9 (by exact extT)) | (with_reducible exact Op9) | (refine OwnI.drawn Op9 ?_ (by omega); (exact updT); done) | (refine OwnI.updX Op9 KD9 (by decide) ?_; (exact updT); done)), (by first | (exact OwnI.ext1 Oj9 (by exact extT)) | (with_reducible exact Oj9) | (refine OwnI.drawn Oj9 ?_ (by omega); (exact updT); done) | (refine OwnI.updX Oj9 KD9 (by decide) ?_; (exact updT); done)), (by first | (exact OwnI.ext1 Ou9 (by exact extT)) | (with_reducible exact Ou9) | (refine OwnI.drawn Ou9 ?_ (by omega); (exact updT); done) | (refine OwnI.updX Ou9 KD9 (by decide) ?_; (exact updT); done)), (by first | (exact OwnI.ext1 Ov9 (by exact extT)) | (with_reducible exact Ov9) | (refine OwnI.drawn Ov9 ?_ (by omega); (exact updT); done) | (refine OwnI.updX Ov9 KD9 (by decide) ?_; (exact updT); done))⟩
        case rest =>
          revert wc; intro w8 hcut
          obtain ⟨two, a10, n10, k10, a11, n11, k11, rfl, htwo9, gD3, hzcr11, KD8, E8, hc8, KA8, KQ8, Ol8, Op8, Oj8, Ou8, Ov8⟩ := hcut
          have hz8 := E8.size
          clear CA7 FA7 LA7 CQ7 FQ7 LQ7 CD7 FD7 LD7
          have CA8 := KA8.cell; have FA8 := KA8.frozen; have LA8 := KA8.lt
          have CQ8 := KQ8.cell; have FQ8 := KQ8.frozen; have LQ8 := KQ8.lt
          have CD8 := KD8.cell; have FD8 := KD8.frozen; have LD8 := KD8.lt
          clear hBd gD1 RD1
          subst htwo9
          obtain ⟨Be, hBe, gD3⟩ := gD3
          go_wp2_with fail
          refine (below_c (show Die B _ g from by exact dieT) 3 (by omega)).mono ?_
          rintro e w9 ⟨_, rfl, X9, hc9, f0, rfl, pf0, qf0⟩
          have gD3 := gD3.drawn X9 (by omega)
          have hz9 := X9.size; (try simp only [World.size_alloc, World.size_setCell, size_setRow, size_drew] at hz9)
          have E9 : Upd w w9 [g] := Upd.trans (by exact updT) X9
          have KA9 : Blk w9 ga 38 #[.int .i64 na, .int .i64 sA.Index, .int .i64 sA.Time, .slice a2 n2 k2, .slice a3 n3 k3, .int .i64 sA.Lease.Holder, .int .i64 sA.Lease.Epoch, .int .i64 sA.Lease.Until] := Blk.upd1 (Blk.cast (by exact blkT) (by first | rfl | simp)) X9 (by omega)
          have KQ9 : Blk w9 gb 38 #[.int .i64 nb, .int .i64 sB.Index, .int .i64 sB.Time, .slice a4 n4 k4, .slice a5 n5 k5, .int .i64 sB.Lease.Holder, .int .i64 sB.Lease.Epoch, .int .i64 sB.Lease.Until] := Blk.upd1 (Blk.cast (by exact blkT) (by first | rfl | simp)) X9 (by omega)
          have KD9 : Blk w9 gD 42 #[.slice a10 n10 k10, .slice a11 n11 k11] := Blk.upd1 (Blk.cast (by exact blkT) (by first | rfl | simp)) X9 (by omega)
          have Ol9 : OwnI w2.heap.size 58 9 w9 (.slice a0 l.length c0) (flEntry l) := OwnI.drawn (by first | (with_reducible exact Ol8) | (refine OwnI.updX Ol8 KD8 (by decide) ?_; (exact updT); done) | (exact ownT)) X9 (by omega)
          have Op9 : OwnI w4.heap.size 111 2 w9 (.slice a2 n2 k2) (flPair sA.Pairs) := OwnI.drawn (by first | (with_reducible exact Op8) | (refine OwnI.updX Op8 KD8 (by decide) ?_; (exact updT); done) | (exact ownT)) X9 (by omega)
          have Oj9 : OwnI w4.heap.size 92 5 w9 (.slice a3 n3 k3) (flJob sA.Jobs) := OwnI.drawn (by first | (with_reducible exact Oj8) | (refine OwnI.updX Oj8 KD8 (by decide) ?_; (exact updT); done) | (exact ownT)) X9 (by omega)
          have Ou9 : OwnI w5.heap.size 111 2 w9 (.slice a4 n4 k4) (flPair sB.Pairs) := OwnI.drawn (by first | (with_reducible exact Ou8) | (refine OwnI.updX Ou8 KD8 (by decide) ?_; (exact updT); done) | (exact ownT)) X9 (by omega)
          have Ov9 : OwnI w5.heap.size 92 5 w9 (.slice a5 n5 k5) (flJob sB.Jobs) := OwnI.drawn (by first | (with_reducible exact Ov8) | (refine OwnI.updX Ov8 KD8 (by decide) ?_; (exact updT); done) | (exact ownT)) X9 (by omega)
          clear X9
          clear CA8 FA8 LA8 CQ8 FQ8 LQ8 CD8 FD8 LD8
          have CA9 := KA9.cell; have FA9 := KA9.frozen; have LA9 := KA9.lt
          have CQ9 := KQ9.cell; have FQ9 := KQ9.frozen; have LQ9 := KQ9.lt
          have CD9 := KD9.cell; have FD9 := KD9.frozen; have LD9 := KD9.lt
          go_wp2_with fail
          refine (below_c (show Die B _ g from by exact dieT) 3 (by omega)).mono ?_
          rintro e w10 ⟨_, rfl, X10, hc10, f1, rfl, pf1, qf1⟩
          have gD3 := gD3.drawn X10 (by omega)
          have hz10 := X10.size; (try simp only [World.size_alloc, World.size_setCell, size_setRow, size_drew] at hz10)
          have E10 : Upd w w10 [g] := Upd.trans (by exact updT) X10
          have KA10 : Blk w10 ga 38 #[.int .i64 na, .int .i64 sA.Index, .int .i64 sA.Time, .slice a2 n2 k2, .slice a3 n3 k3, .int .i64 sA.Lease.Holder, .int .i64 sA.Lease.Epoch, .int .i64 sA.Lease.Until] := Blk.upd1 (Blk.cast (by exact blkT) (by first | rfl | simp)) X10 (by omega)
          have KQ10 : Blk w10 gb 38 #[.int .i64 nb, .int .i64 sB.Index, .int .i64 sB.Time, .slice a4 n4 k4, .slice a5 n5 k5, .int .i64 sB.Lease.Holder, .int .i64 sB.Lease.Epoch, .int .i64 sB.Lease.Until] := Blk.upd1 (Blk.cast (by exact blkT) (by first | rfl | simp)) X10 (by omega)
          have KD10 : Blk w10 gD 42 #[.slice a10 n10 k10, .slice a11 n11 k11] := Blk.upd1 (Blk.cast (by exact blkT) (by first | rfl | simp)) X10 (by omega)
          have Ol10 : OwnI w2.heap.size 58 9 w10 (.slice a0 l.length c0) (flEntry l) := OwnI.drawn (by first | (with_reducible exact Ol9) | (refine OwnI.updX Ol9 KD9 (by decide) ?_; (exact updT); done) | (exact ownT)) X10 (by omega)
          have Op10 : OwnI w4.heap.size 111 2 w10 (.slice a2 n2 k2) (flPair sA.Pairs) := OwnI.drawn (by first | (with_reducible exact Op9) | (refine OwnI.updX Op9 KD9 (by decide) ?_; (exact updT); done) | (exact ownT)) X10 (by omega)
          have Oj10 : OwnI w4.heap.size 92 5 w10 (.slice a3 n3 k3) (flJob sA.Jobs) := OwnI.drawn (by first | (with_reducible exact Oj9) | (refine OwnI.updX Oj9 KD9 (by decide) ?_; (exact updT); done) | (exact ownT)) X10 (by omega)
          have Ou10 : OwnI w5.heap.size 111 2 w10 (.slice a4 n4 k4) (flPair sB.Pairs) := OwnI.drawn (by first | (with_reducible exact Ou9) | (refine OwnI.updX Ou9 KD9 (by decide) ?_; (exact updT); done) | (exact ownT)) X10 (by omega)
          have Ov10 : OwnI w5.heap.size 92 5 w10 (.slice a5 n5 k5) (flJob sB.Jobs) := OwnI.drawn (by first | (with_reducible exact Ov9) | (refine OwnI.updX Ov9 KD9 (by decide) ?_; (exact updT); done) | (exact ownT)) X10 (by omega)
          clear X10
          clear CA9 FA9 LA9 CQ9 FQ9 LQ9 CD9 FD9 LD9
          have CA10 := KA10.cell; have FA10 := KA10.frozen; have LA10 := KA10.lt
          have CQ10 := KQ10.cell; have FQ10 := KQ10.frozen; have LQ10 := KQ10.lt
          have CD10 := KD10.cell; have FD10 := KD10.frozen; have LD10 := KD10.lt
          go_wp2_with fail
          refine (below_c (show Die B _ g from by exact dieT) 3 (by omega)).mono ?_
          rintro e w11 ⟨_, rfl, X11, hc11, f2, rfl, pf2, qf2⟩
          have gD3 := gD3.drawn X11 (by omega)
          have hz11 := X11.size; (try simp only [World.size_alloc, World.size_setCell, size_setRow, size_drew] at hz11)
          have E11 : Upd w w11 [g] := Upd.trans (by exact updT) X11
          have KA11 : Blk w11 ga 38 #[.int .i64 na, .int .i64 sA.Index, .int .i64 sA.Time, .slice a2 n2 k2, .slice a3 n3 k3, .int .i64 sA.Lease.Holder, .int .i64 sA.Lease.Epoch, .int .i64 sA.Lease.Until] := Blk.upd1 (Blk.cast (by exact blkT) (by first | rfl | simp)) X11 (by omega)
          have KQ11 : Blk w11 gb 38 #[.int .i64 nb, .int .i64 sB.Index, .int .i64 sB.Time, .slice a4 n4 k4, .slice a5 n5 k5, .int .i64 sB.Lease.Holder, .int .i64 sB.Lease.Epoch, .int .i64 sB.Lease.Until] := Blk.upd1 (Blk.cast (by exact blkT) (by first | rfl | simp)) X11 (by omega)
          have KD11 : Blk w11 gD 42 #[.slice a10 n10 k10, .slice a11 n11 k11] := Blk.upd1 (Blk.cast (by exact blkT) (by first | rfl | simp)) X11 (by omega)
          have Ol11 : OwnI w2.heap.size 58 9 w11 (.slice a0 l.length c0) (flEntry l) := OwnI.drawn (by first | (with_reducible exact Ol10) | (refine OwnI.updX Ol10 KD10 (by decide) ?_; (exact updT); done) | (exact ownT)) X11 (by omega)
          have Op11 : OwnI w4.heap.size 111 2 w11 (.slice a2 n2 k2) (flPair sA.Pairs) := OwnI.drawn (by first | (with_reducible exact Op10) | (refine OwnI.updX Op10 KD10 (by decide) ?_; (exact updT); done) | (exact ownT)) X11 (by omega)
          have Oj11 : OwnI w4.heap.size 92 5 w11 (.slice a3 n3 k3) (flJob sA.Jobs) := OwnI.drawn (by first | (with_reducible exact Oj10) | (refine OwnI.updX Oj10 KD10 (by decide) ?_; (exact updT); done) | (exact ownT)) X11 (by omega)
          have Ou11 : OwnI w5.heap.size 111 2 w11 (.slice a4 n4 k4) (flPair sB.Pairs) := OwnI.drawn (by first | (with_reducible exact Ou10) | (refine OwnI.updX Ou10 KD10 (by decide) ?_; (exact updT); done) | (exact ownT)) X11 (by omega)
          have Ov11 : OwnI w5.heap.size 92 5 w11 (.slice a5 n5 k5) (flJob sB.Jobs) := OwnI.drawn (by first | (with_reducible exact Ov10) | (refine OwnI.updX Ov10 KD10 (by decide) ?_; (exact updT); done) | (exact ownT)) X11 (by omega)
          clear X11
          clear CA10 FA10 LA10 CQ10 FQ10 LQ10 CD10 FD10 LD10
          have CA11 := KA11.cell; have FA11 := KA11.frozen; have LA11 := KA11.lt
          have CQ11 := KQ11.cell; have FQ11 := KQ11.frozen; have LQ11 := KQ11.lt
          have CD11 := KD11.cell; have FD11 := KD11.frozen; have LD11 := KD11.lt
          go_wp2_with fail
          refine (below_c (show Die B _ g from by exact dieT) 3 (by omega)).mono ?_
          rintro e w12 ⟨_, rfl, X12, hc12, f3, rfl, pf3, qf3⟩
          have gD3 := gD3.drawn X12 (by omega)
          have hz12 := X12.size; (try simp only [World.size_alloc, World.size_setCell, size_setRow, size_drew] at hz12)
          have E12 : Upd w w12 [g] := Upd.trans (by exact updT) X12
          have KA12 : Blk w12 ga 38 #[.int .i64 na, .int .i64 sA.Index, .int .i64 sA.Time, .slice a2 n2 k2, .slice a3 n3 k3, .int .i64 sA.Lease.Holder, .int .i64 sA.Lease.Epoch, .int .i64 sA.Lease.Until] := Blk.upd1 (Blk.cast (by exact blkT) (by first | rfl | simp)) X12 (by omega)
          have KQ12 : Blk w12 gb 38 #[.int .i64 nb, .int .i64 sB.Index, .int .i64 sB.Time, .slice a4 n4 k4, .slice a5 n5 k5, .int .i64 sB.Lease.Holder, .int .i64 sB.Lease.Epoch, .int .i64 sB.Lease.Until] := Blk.upd1 (Blk.cast (by exact blkT) (by first | rfl | simp)) X12 (by omega)
          have KD12 : Blk w12 gD 42 #[.slice a10 n10 k10, .slice a11 n11 k11] := Blk.upd1 (Blk.cast (by exact blkT) (by first | rfl | simp)) X12 (by omega)
          have Ol12 : OwnI w2.heap.size 58 9 w12 (.slice a0 l.length c0) (flEntry l) := OwnI.drawn (by first | (with_reducible exact Ol11) | (refine OwnI.updX Ol11 KD11 (by decide) ?_; (exact updT); done) | (exact ownT)) X12 (by omega)
          have Op12 : OwnI w4.heap.size 111 2 w12 (.slice a2 n2 k2) (flPair sA.Pairs) := OwnI.drawn (by first | (with_reducible exact Op11) | (refine OwnI.updX Op11 KD11 (by decide) ?_; (exact updT); done) | (exact ownT)) X12 (by omega)
          have Oj12 : OwnI w4.heap.size 92 5 w12 (.slice a3 n3 k3) (flJob sA.Jobs) := OwnI.drawn (by first | (with_reducible exact Oj11) | (refine OwnI.updX Oj11 KD11 (by decide) ?_; (exact updT); done) | (exact ownT)) X12 (by omega)
          have Ou12 : OwnI w5.heap.size 111 2 w12 (.slice a4 n4 k4) (flPair sB.Pairs) := OwnI.drawn (by first | (with_reducible exact Ou11) | (refine OwnI.updX Ou11 KD11 (by decide) ?_; (exact updT); done) | (exact ownT)) X12 (by omega)
          have Ov12 : OwnI w5.heap.size 92 5 w12 (.slice a5 n5 k5) (flJob sB.Jobs) := OwnI.drawn (by first | (with_reducible exact Ov11) | (refine OwnI.updX Ov11 KD11 (by decide) ?_; (exact updT); done) | (exact ownT)) X12 (by omega)
          clear X12
          clear CA11 FA11 LA11 CQ11 FQ11 LQ11 CD11 FD11 LD11
          have CA12 := KA12.cell; have FA12 := KA12.frozen; have LA12 := KA12.lt
          have CQ12 := KQ12.cell; have FQ12 := KQ12.frozen; have LQ12 := KQ12.lt
          have CD12 := KD12.cell; have FD12 := KD12.frozen; have LD12 := KD12.lt
          obtain ⟨D4, hD4⟩ : ∃ d, d = fallenDisk false [f0, f1, f2, f3] D3 := ⟨_, rfl⟩
          have hT2 := (HT.out [f0, f1, f2, f3]).2.2
          rw [← HhD1.out, ← HhD2.out, ← HhD3.out, ← hD4] at hT2
          have HT2 := Lib.hid hT2; have HD4 := Lib.hid hD4; clear hT2 hD4
          have RD3 := RdDisk.get gD3.rd
          go_wp2_with fail
          refine (fallen_c _ _ _ _ _ _ [f0, f1, f2, f3] (RD3.1.ext (by exact extT)) (RD3.2.ext (by exact extT)) (ints4 _ _ f0 f1 f2 f3)).mono ?_
          rintro e w13 ⟨_, rfl, hx13, gf0⟩
          have hz13 := hx13.size; (try simp only [World.size_alloc, World.size_setCell, size_setRow, size_drew] at hz13)
          have E13 : Upd w w13 [g] := Upd.ext (by exact updT) hx13
          have hc13 : Die B w13 g := Die.ext (by exact dieT) hx13
          have KA13 : Blk w13 ga 38 #[.int .i64 na, .int .i64 sA.Index, .int .i64 sA.Time, .slice a2 n2 k2, .slice a3 n3 k3, .int .i64 sA.Lease.Holder, .int .i64 sA.Lease.Epoch, .int .i64 sA.Lease.Until] := Blk.ext (Blk.cast (by exact blkT) (by first | rfl | simp)) hx13
          have KQ13 : Blk w13 gb 38 #[.int .i64 nb, .int .i64 sB.Index, .int .i64 sB.Time, .slice a4 n4 k4, .slice a5 n5 k5, .int .i64 sB.Lease.Holder, .int .i64 sB.Lease.Epoch, .int .i64 sB.Lease.Until] := Blk.ext (Blk.cast (by exact blkT) (by first | rfl | simp)) hx13
          have KD13 : Blk w13 gD 42 #[.slice a10 n10 k10, .slice a11 n11 k11] := Blk.ext (Blk.cast (by exact blkT) (by first | rfl | simp)) hx13
          have KF13 : Blk w13 w12.heap.size 2 #[.int .i64 f0, .int .i64 f1, .int .i64 f2, .int .i64 f3] := Blk.ext (Blk.cast (by exact blkT) (by first | rfl | simp)) hx13
          have Ol13 : OwnI w2.heap.size 58 9 w13 (.slice a0 l.length c0) (flEntry l) := OwnI.ext1 (by first | (with_reducible exact Ol12) | (refine OwnI.updX Ol12 KD12 (by decide) ?_; (exact updT); done) | (exact ownT)) hx13
          have Op13 : OwnI w4.heap.size 111 2 w13 (.slice a2 n2 k2) (flPair sA.Pairs) := OwnI.ext1 (by first | (with_reducible exact Op12) | (refine OwnI.updX Op12 KD12 (by decide) ?_; (exact updT); done) | (exact ownT)) hx13
          have Oj13 : OwnI w4.heap.size 92 5 w13 (.slice a3 n3 k3) (flJob sA.Jobs) := OwnI.ext1 (by first | (with_reducible exact Oj12) | (refine OwnI.updX Oj12 KD12 (by decide) ?_; (exact updT); done) | (exact ownT)) hx13
          have Ou13 : OwnI w5.heap.size 111 2 w13 (.slice a4 n4 k4) (flPair sB.Pairs) := OwnI.ext1 (by first | (with_reducible exact Ou12) | (refine OwnI.updX Ou12 KD12 (by decide) ?_; (exact updT); done) | (exact ownT)) hx13
          have Ov13 : OwnI w5.heap.size 92 5 w13 (.slice a5 n5 k5) (flJob sB.Jobs) := OwnI.ext1 (by first | (with_reducible exact Ov12) | (refine OwnI.updX Ov12 KD12 (by decide) ?_; (exact updT); done) | (exact ownT)) hx13
          clear hx13
          clear CA12 FA12 LA12 CQ12 FQ12 LQ12 CD12 FD12 LD12
          have CA13 := KA13.cell; have FA13 := KA13.frozen; have LA13 := KA13.lt
          have CQ13 := KQ13.cell; have FQ13 := KQ13.frozen; have LQ13 := KQ13.lt
          have CD13 := KD13.cell; have FD13 := KD13.frozen; have LD13 := KD13.lt
          have CF13 := KF13.cell; have FF13 := KF13.frozen; have LF13 := KF13.lt
          have gf := gf0.rd; rw [show (⟨D3.Kept, D3.Wait⟩ : DDisk) = D3 from rfl, ← HD4.out] at gf
          clear gf0 RD3
          obtain ⟨a12, n12, k12, a13, n13, k13, rfl⟩ := gf.shape
          obtain ⟨lk, hlk⟩ : ∃ b, b = (shotAt D4 1).isSome := ⟨_, rfl⟩
          obtain ⟨ls, hls⟩ : ∃ x, x = (shotAt D4 1).getD zShot := ⟨_, rfl⟩
          have Hlk := Lib.hid hlk; have Hls := Lib.hid hls; clear hlk hls
          go_wp2_with fail
          refine (shotAt_k (gf.ext (by exact extT)) 1).mono ?_
          rintro e w14 ⟨_, rfl, hx14, u, rfl, FF, gl0⟩
          have hz14 := hx14.size; (try simp only [World.size_alloc, World.size_setCell, size_setRow, size_drew] at hz14)
          have E14 : Upd w w14 [g] := Upd.ext (by exact updT) hx14
          have hc14 : Die B w14 g := Die.ext (by exact dieT) hx14
          have KA14 : Blk w14 ga 38 #[.int .i64 na, .int .i64 sA.Index, .int .i64 sA.Time, .slice a2 n2 k2, .slice a3 n3 k3, .int .i64 sA.Lease.Holder, .int .i64 sA.Lease.Epoch, .int .i64 sA.Lease.Until] := Blk.ext (Blk.cast (by exact blkT) (by first | rfl | simp)) hx14
          have KQ14 : Blk w14 gb 38 #[.int .i64 nb, .int .i64 sB.Index, .int .i64 sB.Time, .slice a4 n4 k4, .slice a5 n5 k5, .int .i64 sB.Lease.Holder, .int .i64 sB.Lease.Epoch, .int .i64 sB.Lease.Until] := Blk.ext (Blk.cast (by exact blkT) (by first | rfl | simp)) hx14
          have KD14 : Blk w14 gD 42 #[.slice a10 n10 k10, .slice a11 n11 k11] := Blk.ext (Blk.cast (by exact blkT) (by first | rfl | simp)) hx14
          have KF14 : Blk w14 w12.heap.size 2 #[.int .i64 f0, .int .i64 f1, .int .i64 f2, .int .i64 f3] := Blk.ext (Blk.cast (by exact blkT) (by first | rfl | simp)) hx14
          have Ol14 : OwnI w2.heap.size 58 9 w14 (.slice a0 l.length c0) (flEntry l) := OwnI.ext1 (by first | (with_reducible exact Ol13) | (refine OwnI.updX Ol13 KD13 (by decide) ?_; (exact updT); done) | (exact ownT)) hx14
          have Op14 : OwnI w4.heap.size 111 2 w14 (.slice a2 n2 k2) (flPair sA.Pairs) := OwnI.ext1 (by first | (with_reducible exact Op13) | (refine OwnI.updX Op13 KD13 (by decide) ?_; (exact updT); done) | (exact ownT)) hx14
          have Oj14 : OwnI w4.heap.size 92 5 w14 (.slice a3 n3 k3) (flJob sA.Jobs) := OwnI.ext1 (by first | (with_reducible exact Oj13) | (refine OwnI.updX Oj13 KD13 (by decide) ?_; (exact updT); done) | (exact ownT)) hx14
          have Ou14 : OwnI w5.heap.size 111 2 w14 (.slice a4 n4 k4) (flPair sB.Pairs) := OwnI.ext1 (by first | (with_reducible exact Ou13) | (refine OwnI.updX Ou13 KD13 (by decide) ?_; (exact updT); done) | (exact ownT)) hx14
          have Ov14 : OwnI w5.heap.size 92 5 w14 (.slice a5 n5 k5) (flJob sB.Jobs) := OwnI.ext1 (by first | (with_reducible exact Ov13) | (refine OwnI.updX Ov13 KD13 (by decide) ?_; (exact updT); done) | (exact ownT)) hx14
          clear hx14
          clear CA13 FA13 LA13 CQ13 FQ13 LQ13 CD13 FD13 LD13 CF13 FF13 LF13
          have CA14 := KA14.cell; have FA14 := KA14.frozen; have LA14 := KA14.lt
          have CQ14 := KQ14.cell; have FQ14 := KQ14.frozen; have LQ14 := KQ14.lt
          have CD14 := KD14.cell; have FD14 := KD14.frozen; have LD14 := KD14.lt
          have CF14 := KF14.cell; have FF14 := KF14.frozen; have LF14 := KF14.lt
          rw [← Hlk.out]; rw [← Hls.out] at gl0
          have gl := gl0.rd; clear gl0
          obtain ⟨a14, n14, k14, a15, n15, k15, rfl⟩ := gl.shape
          by_cases hf2 : f0 = 2
          · skip
            have hlk : lk = false := by rw [Hlk.out, HT2.out.1 (by simpa [fate] using hf2)]; rfl
            subst hlk
            have hb : (f0 == 2) = true := by simp [hf2]
            clear hf2
            go_wp2_with fail
            go_ret
            exact ⟨by first | rfl | (simp [*]; done), Upd.toExt (g := g) (by exact updT) hgw⟩
          · skip
            have hb : (f0 == 2) = false := by simp [hf2]
            cases hlk9 : lk
            · skip
              subst hlk9
              go_wp2_with fail
              go_ret
              exact ⟨by first | rfl | (simp [*]; done), Upd.toExt (g := g) (by exact updT) hgw⟩
            · skip
              have hat : ls = ⟨na, sA⟩ ∨ ls = ⟨nb, sB⟩ := by
                have h1 := Hlk.out; rw [hlk9] at h1
                cases hs : shotAt D4 1 with
                | none => rw [hs] at h1; cases h1
                | some s => have h3 := Hls.out; rw [hs] at h3; rw [h3]; exact HT2.out.2 s hs
              subst hlk9
              have gst : RdState _ _ ls.State := RdShot.state gl
              have enn : (nb == na) = false := by simp; omega
              have enb : (nb == nb) = true := by simp
              have ena : (na == na) = true := by simp
              rcases hat with h9 | h9
              · skip
                have hN9 : ls.Num = na := by rw [h9]
                have hS9 : ls.State = sA := by rw [h9]
                have HS9 := Lib.hid hS9
                have e9 : (ls.Num == na) = true := by rw [hN9]; simp
                have hst9 : stateOk ls.State = true := by rw [hS9]; exact hAo
                clear h9 hN9 hS9
                have gx : RdState w14 (.agg #[.int .i64 sA.Index, .int .i64 sA.Time, .slice a2 n2 k2, .slice a3 n3 k3, .int .i64 sA.Lease.Holder, .int .i64 sA.Lease.Epoch, .int .i64 sA.Lease.Until]) ls.State := by
                  rw [HS9.out]; exact ⟨_, _, rfl, OwnI.ints Op14, OwnI.ints Oj14⟩
                go_wp2_with fail
                refine (sSameState_k (gst.ext (by exact extT)) (gx.ext (by exact extT)) hst9).mono ?_
                rintro e w15 ⟨rfl, hx15⟩
                have hz15 := hx15.size; (try simp only [World.size_alloc, World.size_setCell, size_setRow, size_drew] at hz15)
                have E15 : Upd w w15 [g] := Upd.ext (by exact updT) hx15
                have hc15 : Die B w15 g := Die.ext (by exact dieT) hx15
                have KA15 : Blk w15 ga 38 #[.int .i64 na, .int .i64 sA.Index, .int .i64 sA.Time, .slice a2 n2 k2, .slice a3 n3 k3, .int .i64 sA.Lease.Holder, .int .i64 sA.Lease.Epoch, .int .i64 sA.Lease.Until] := Blk.ext (Blk.cast (by exact blkT) (by first | rfl | simp)) hx15
                have KQ15 : Blk w15 gb 38 #[.int .i64 nb, .int .i64 sB.Index, .int .i64 sB.Time, .slice a4 n4 k4, .slice a5 n5 k5, .int .i64 sB.Lease.Holder, .int .i64 sB.Lease.Epoch, .int .i64 sB.Lease.Until] := Blk.ext (Blk.cast (by exact blkT) (by first | rfl | simp)) hx15
                have KD15 : Blk w15 gD 42 #[.slice a10 n10 k10, .slice a11 n11 k11] := Blk.ext (Blk.cast (by exact blkT) (by first | rfl | simp)) hx15
                have KF15 : Blk w15 w12.heap.size 2 #[.int .i64 f0, .int .i64 f1, .int .i64 f2, .int .i64 f3] := Blk.ext (Blk.cast (by exact blkT) (by first | rfl | simp)) hx15
                have KL15 : Blk w15 w14.heap.size 38 #[.int .i64 ls.Num, .int .i64 ls.State.Index, .int .i64 ls.State.Time, .slice a14 n14 k14, .slice a15 n15 k15, .int .i64 ls.State.Lease.Holder, .int .i64 ls.State.Lease.Epoch, .int .i64 ls.State.Lease.Until] := Blk.ext (Blk.cast (by exact blkT) (by first | rfl | simp)) hx15
                have Ol15 : OwnI w2.heap.size 58 9 w15 (.slice a0 l.length c0) (flEntry l) := OwnI.ext1 (by first | (with_reducible exact Ol14) | (refine OwnI.updX Ol14 KD14 (by decide) ?_; (exact updT); done) | (exact ownT)) hx15
                have Op15 : OwnI w4.heap.size 111 2 w15 (.slice a2 n2 k2) (flPair sA.Pairs) := OwnI.ext1 (by first | (with_reducible exact Op14) | (refine OwnI.updX Op14 KD14 (by decide) ?_; (exact updT); done) | (exact ownT)) hx15
                have Oj15 : OwnI w4.heap.size 92 5 w15 (.slice a3 n3 k3) (flJob sA.Jobs) := OwnI.ext1 (by first | (with_reducible exact Oj14) | (refine OwnI.updX Oj14 KD14 (by decide) ?_; (exact updT); done) | (exact ownT)) hx15
                have Ou15 : OwnI w5.heap.size 111 2 w15 (.slice a4 n4 k4) (flPair sB.Pairs) := OwnI.ext1 (by first | (with_reducible exact Ou14) | (refine OwnI.updX Ou14 KD14 (by decide) ?_; (exact updT); done) | (exact ownT)) hx15
                have Ov15 : OwnI w5.heap.size 92 5 w15 (.slice a5 n5 k5) (flJob sB.Jobs) := OwnI.ext1 (by first | (with_reducible exact Ov14) | (refine OwnI.updX Ov14 KD14 (by decide) ?_; (exact updT); done) | (exact ownT)) hx15
                clear hx15
                clear CA14 FA14 LA14 CQ14 FQ14 LQ14 CD14 FD14 LD14 CF14 FF14 LF14
                have CA15 := KA15.cell; have FA15 := KA15.frozen; have LA15 := KA15.lt
                have CQ15 := KQ15.cell; have FQ15 := KQ15.frozen; have LQ15 := KQ15.lt
                have CD15 := KD15.cell; have FD15 := KD15.frozen; have LD15 := KD15.lt
                have CF15 := KF15.cell; have FF15 := KF15.frozen; have LF15 := KF15.lt
                have CL15 := KL15.cell; have FL15 := KL15.frozen; have LL15 := KL15.lt
                go_wp2_with fail
                go_ret
                exact ⟨by first | rfl | (simp [*]; done), Upd.toExt (g := g) (by exact updT) hgw⟩
              · skip
                have hN9 : ls.Num = nb := by rw [h9]
                have hS9 : ls.State = sB := by rw [h9]
                have HS9 := Lib.hid hS9
                have e9 : (ls.Num == na) = false := by rw [hN9]; exact enn
                have e8 : (ls.Num == nb) = true := by rw [hN9]; simp
                have hst9 : stateOk ls.State = true := by rw [hS9]; exact hBo
                clear h9 hN9 hS9
                have gx : RdState w14 (.agg #[.int .i64 sB.Index, .int .i64 sB.Time, .slice a4 n4 k4, .slice a5 n5 k5, .int .i64 sB.Lease.Holder, .int .i64 sB.Lease.Epoch, .int .i64 sB.Lease.Until]) ls.State := by
                  rw [HS9.out]; exact ⟨_, _, rfl, OwnI.ints Ou14, OwnI.ints Ov14⟩
                go_wp2_with fail
                refine (sSameState_k (gst.ext (by exact extT)) (gx.ext (by exact extT)) hst9).mono ?_
                rintro e w15 ⟨rfl, hx15⟩
                have hz15 := hx15.size; (try simp only [World.size_alloc, World.size_setCell, size_setRow, size_drew] at hz15)
                have E15 : Upd w w15 [g] := Upd.ext (by exact updT) hx15
                have hc15 : Die B w15 g := Die.ext (by exact dieT) hx15
                have KA15 : Blk w15 ga 38 #[.int .i64 na, .int .i64 sA.Index, .int .i64 sA.Time, .slice a2 n2 k2, .slice a3 n3 k3, .int .i64 sA.Lease.Holder, .int .i64 sA.Lease.Epoch, .int .i64 sA.Lease.Until] := Blk.ext (Blk.cast (by exact blkT) (by first | rfl | simp)) hx15
                have KQ15 : Blk w15 gb 38 #[.int .i64 nb, .int .i64 sB.Index, .int .i64 sB.Time, .slice a4 n4 k4, .slice a5 n5 k5, .int .i64 sB.Lease.Holder, .int .i64 sB.Lease.Epoch, .int .i64 sB.Lease.Until] := Blk.ext (Blk.cast (by exact blkT) (by first | rfl | simp)) hx15
                have KD15 : Blk w15 gD 42 #[.slice a10 n10 k10, .slice a11 n11 k11] := Blk.ext (Blk.cast (by exact blkT) (by first | rfl | simp)) hx15
                have KF15 : Blk w15 w12.heap.size 2 #[.int .i64 f0, .int .i64 f1, .int .i64 f2, .int .i64 f3] := Blk.ext (Blk.cast (by exact blkT) (by first | rfl | simp)) hx15
                have KL15 : Blk w15 w14.heap.size 38 #[.int .i64 ls.Num, .int .i64 ls.State.Index, .int .i64 ls.State.Time, .slice a14 n14 k14, .slice a15 n15 k15, .int .i64 ls.State.Lease.Holder, .int .i64 ls.State.Lease.Epoch, .int .i64 ls.State.Lease.Until] := Blk.ext (Blk.cast (by exact blkT) (by first | rfl | simp)) hx15
                have Ol15 : OwnI w2.heap.size 58 9 w15 (.slice a0 l.length c0) (flEntry l) := OwnI.ext1 (by first | (with_reducible exact Ol14) | (refine OwnI.updX Ol14 KD14 (by decide) ?_; (exact updT); done) | (exact ownT)) hx15
                have Op15 : OwnI w4.heap.size 111 2 w15 (.slice a2 n2 k2) (flPair sA.Pairs) := OwnI.ext1 (by first | (with_reducible exact Op14) | (refine OwnI.updX Op14 KD14 (by decide) ?_; (exact updT); done) | (exact ownT)) hx15
                have Oj15 : OwnI w4.heap.size 92 5 w15 (.slice a3 n3 k3) (flJob sA.Jobs) := OwnI.ext1 (by first | (with_reducible exact Oj14) | (refine OwnI.updX Oj14 KD14 (by decide) ?_; (exact updT); done) | (exact ownT)) hx15
                have Ou15 : OwnI w5.heap.size 111 2 w15 (.slice a4 n4 k4) (flPair sB.Pairs) := OwnI.ext1 (by first | (with_reducible exact Ou14) | (refine OwnI.updX Ou14 KD14 (by decide) ?_; (exact updT); done) | (exact ownT)) hx15
                have Ov15 : OwnI w5.heap.size 92 5 w15 (.slice a5 n5 k5) (flJob sB.Jobs) := OwnI.ext1 (by first | (with_reducible exact Ov14) | (refine OwnI.updX Ov14 KD14 (by decide) ?_; (exact updT); done) | (exact ownT)) hx15
                clear hx15
                clear CA14 FA14 LA14 CQ14 FQ14 LQ14 CD14 FD14 LD14 CF14 FF14 LF14
                have CA15 := KA15.cell; have FA15 := KA15.frozen; have LA15 := KA15.lt
                have CQ15 := KQ15.cell; have FQ15 := KQ15.frozen; have LQ15 := KQ15.lt
                have CD15 := KD15.cell; have FD15 := KD15.frozen; have LD15 := KD15.lt
                have CF15 := KF15.cell; have FF15 := KF15.frozen; have LF15 := KF15.lt
                have CL15 := KL15.cell; have FL15 := KL15.frozen; have LL15 := KL15.lt
                go_wp2_with fail
                go_ret
                exact ⟨by first | rfl | (simp [*]; done), Upd.toExt (g := g) (by exact updT) hgw⟩

end Go.Proofs.Ytohoemphmghblaa

-- The statement FnTornShot: for every input the law returns true.
namespace Go.Proofs.Ytohoemphmghblaa.fnTornShot
open Go.ChangeShapes Go.WideShapes Go.ChangeAt Go.RowKit Go.G8
open Go.Proofs.Ytohoemphmghblaa.facts (b2)

set_option maxRecDepth 100000 in
theorem lifted (os : Os) (started : os.Started) (H : Type) (enc : TypeId × Value → H) :
    ReturnsInHanded {} Try.checked os 3 .any (Rows.fnTornShotSpec.pre6 enc Try.prog Try.f3 Rows.fnTornShotRow.domain false) (Rows.fnTornShotSpec.post enc Try.prog Try.f3 false true false false) := by
  refine returnsInHanded_of_change (C := Try.checked) own started (by kernel_rfl) Try.func3
    (ChangeSpec.witness6 (enc := enc) (C := Try.checked) false ⟨#[], #[.slice none 0 0], []⟩ 8 (by kernel_rfl) (by kernel_rfl) (by kernel_rfl) (by kernel_rfl)) ?_
  intro W base args ds gs before hval0 hW _ _
  have hval : ∀ (j : Nat) t v, Try.f3.params[j]? = some t → args[j]? = some v → Value.okWide Try.prog W .any base t v := hval0
  have hW' := hW
  obtain ⟨p, q, hA0, hV, rfl, hfz, hnd⟩ := hW
  have hA : DataW.TrodAll enc Try.prog W 0 (fun _ => true) true Try.f3.params.toList args.toList ds p := hA0
  rw [Try.params3] at hA hval
  obtain ⟨v0, vs0, d0, ds0, p0, q0, hargs, rfl, rfl, h0, r0⟩ := trodAll_cons hA
  obtain ⟨rfl, rfl, rfl⟩ := trodAll_nil r0
  obtain rfl : args = #[v0] := by cases args; simp_all
  obtain ⟨rfl, rfl⟩ := trodVars_none hV
  have k0 := h0
  have lt0 : ∀ x ∈ p0, x.block < W.heap.size := by obtain ⟨m, hm⟩ := k0; exact DataW.trod_lt m _ _ _ hm
  obtain ⟨sa0, sn0, sc0, rfl⟩ := okWide_slice Try.underlying22 (hval 0 22 v0 rfl rfl)
  obtain ⟨m0, hm0⟩ := h0
  obtain ⟨s0, e0, g0⟩ := rd_Bytes hm0
  simp [Value.cells] at e0
  subst e0
  clear hA0 hval0
  refine (law_TornShot W _ g0).mono fun e W' ⟨he, bel0⟩ => ?_
  have bel : Below W.heap.size W W' := bel0
  subst he
  exact ⟨_, rfl, _, _, _, [], _, [], hW', trodAll_mk1 (shut_bool Try.underlying4 _), (trodAll_cons_mk (Below.trod laidOut (by kernel_rfl) (of_decide_eq_true (by kernel_rfl)) k0 bel lt0) trodAll_mk0), rfl, bel.frame _, fun h => by cases h⟩

theorem k0 : (Rows.fnTornShotRow.wf (OpenSpec.ofChange Rows.fnTornShotSpec)) = true := by kernel_rfl
theorem k1 : (laidOutB Try.checked.prog) = true := facts.k1
theorem k2 : (mapsRowed Try.checked.prog) = true := facts.k2
theorem k3 : (Try.f3.params.all (Try.checked.prog.readableRec ·)) = true := by kernel_rfl
theorem k4 : (namedTie Try.checked.prog Rows.fnTornShotRow.named Rows.fnTornShotSpec.vars) = true := by kernel_rfl
theorem k5 : ((Rows.fnTornShotRow.stops == [])) = true := by kernel_rfl
theorem k6 : ((Try.checked.prog.stops == [])) = true := facts.k6
theorem k7 : ((Rows.fnTornShotRow.knobs == [])) = true := by kernel_rfl
theorem k8 : ((Try.checked.prog.stopKnobs == [])) = true := facts.k8
theorem k9 : ((Rows.fnTornShotRow.inPlace == Try.checked.prog.inPlace 3)) = true := by kernel_rfl
theorem k10 : ((Rows.fnTornShotRow.unfollowed == Try.checked.prog.unfollowed 3)) = true := by kernel_rfl
theorem k11 : ((Rows.fnTornShotRow.recurses == Try.checked.prog.recurses 3)) = true := by kernel_rfl
theorem k12 : ((Rows.fnTornShotRow.named == Try.checked.prog.varsNamed 3)) = true := by kernel_rfl
theorem k13 : ((Rows.fnTornShotRow.maps == (Try.f3.params.toList ++ Rows.fnTornShotSpec.plain.varTypes Try.checked.prog).any (Try.checked.prog.mapsRec ·))) = true := by kernel_rfl
theorem k14 : ((Rows.fnTornShotRow.ifaces == (Try.f3.params.toList ++ Rows.fnTornShotSpec.plain.varTypes Try.checked.prog).any (Try.checked.prog.ifacesRec ·))) = true := by kernel_rfl
theorem k15 : ((Rows.fnTornShotRow.mapsOut == Try.checked.prog.mapsAmong Try.f3.resultTypes.toList)) = true := by kernel_rfl
theorem k16 : ((Rows.fnTornShotRow.loops == (Try.f3.params.toList ++ Rows.fnTornShotSpec.plain.varTypes Try.checked.prog).any (Try.checked.prog.loopsFrom ·))) = true := by kernel_rfl
theorem k17 : ((Rows.fnTornShotRow.wideKeys == (Try.f3.params.toList ++ Rows.fnTornShotSpec.plain.varTypes Try.checked.prog ++ Try.f3.resultTypes.toList).any (Try.checked.prog.wideKeysFrom ·))) = true := by kernel_rfl
theorem k18 : (Rows.fnTornShotSpec.vars.all (Try.checked.prog.varReadable ·)) = true := by kernel_rfl
theorem k19 : (Try.f3.resultTypes.all (fun t => Try.checked.prog.readableRec t && decide (t < Try.checked.prog.types.size))) = true := by kernel_rfl
theorem k20 : ((Rows.fnTornShotRow.ifacesOut == Try.f3.resultTypes.toList.any (Try.checked.prog.ifacesRec ·))) = true := by kernel_rfl
theorem k21 : ((Rows.fnTornShotRow.loopsOut == Try.f3.resultTypes.toList.any (Try.checked.prog.loopsFrom ·))) = true := by kernel_rfl
theorem k22 : ((Rows.fnTornShotRow.plainKeys == Try.checked.prog.plainKeys)) = true := facts.k22
theorem k23 : (Rows.fnTornShotRow.shortTexts.isNone) = true := by kernel_rfl
theorem k24 : (Try.checked.prog.stopsHeard) = true := facts.k24
theorem k25 : (Try.checked.prog.mayEnter) = true := facts.k25
theorem k26 : ((Rows.fnTornShotRow.lifted == Try.checked.prog.liftsFinal)) = true := facts.k26
theorem k27 : ((Try.checked.prog.make == some Rows.fnTornShotRow.make)) = true := facts.k27
theorem k28 : ((Rows.fnTornShotRow.kinds == (if Rows.fnTornShotRow.domain.isEmpty then [] else Try.f3.params.toList.map fun t => match Try.checked.prog.underlying t with | some (.int k) => some k | _ => none))) = true := by kernel_rfl
theorem k29 : ((Rows.fnTornShotRow.pinned == Rows.fnTornShotRow.pinnedBy)) = true := by kernel_rfl
theorem k30 : ((Rows.fnTornShotRow.veiled == (Try.f3.params.toList ++ Rows.fnTornShotSpec.plain.varTypes Try.checked.prog ++ Try.f3.resultTypes.toList).any (Try.checked.prog.veiledRec ·))) = true := by kernel_rfl
theorem k31 : (Rows.fnTornShotRow.veiledFits Try.checked.prog Try.f3.params.toList (Try.f3.params.toList ++ Rows.fnTornShotSpec.plain.varTypes Try.checked.prog ++ Try.f3.resultTypes.toList)) = true := by kernel_rfl
set_option maxRecDepth 100000 in
theorem closed : joinedFacts Try.checked.prog 3 Try.f3 Rows.fnTornShotSpec Rows.fnTornShotRow = true := by
  unfold joinedFacts
  exact (b2 (b2 (b2 (b2 (b2 (b2 (b2 (b2 (b2 (b2 (b2 (b2 (b2 (b2 (b2 (b2 (b2 (b2 (b2 (b2 (b2 (b2 (b2 (b2 (b2 (b2 (b2 (b2 (b2 (b2 (b2 k0 k1) k2) k3) k4) k5) k6) k7) k8) k9) k10) k11) k12) k13) k14) k15) k16) k17) k18) k19) k20) k21) k22) k23) k24) k25) k26) k27) k28) k29) k30) k31)

theorem proved : Rows.FnTornShotSaid :=
  OpenClaim.holds_of_wide 3 Try.f3 rfl rfl rfl rfl rfl rfl rfl ⟨rfl, rfl, rfl, rfl, rfl⟩ rfl rfl rfl rfl rfl (by as_aux_lemma => kernel_rfl) Try.func3 closed
    (of_decide_eq_true (by as_aux_lemma => kernel_rfl)) (by as_aux_lemma => (unfold Func.isWrapper; rw [if_neg (of_decide_eq_false (by kernel_rfl))]; exact ⟨rfl, rfl⟩))
    (fun os started H enc _ => lifted os started H enc)
end Go.Proofs.Ytohoemphmghblaa.fnTornShot
