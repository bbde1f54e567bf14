/- Contracts and plain laws: LAckHeard. -/
import Derived.Test.YtemfcogdjmjplaaHh
import Derived.Deep.DeepCutAuto
set_option linter.unusedSimpArgs false
set_option linter.unusedVariables false
-- The statement's walk: FnExactAckHeard.
set_option linter.unusedSimpArgs false
set_option linter.unusedVariables false
namespace Go.Proofs.Ytemfcogdjmjplaa
open Go.RowKit Go.G8

set_option maxHeartbeats 16000000 in
set_option maxRecDepth 100000 in
theorem law_AckHeard (w : World) (c0_0 : Int) (c0_1 : Int) (c0_2 : Int) (c0_3 : Int) (c0_4 : Int) (c0_5 : Int) (c0_6 : Int) (s0_7 : Value) (l0_7 : List DDue) (c0_8 : Bool) (c0_9 : Int) (c0_10 : Int) (c0_11 : Int) (c0_12 : Int) (c0_13 : Int) (c0_14 : Int) (c1_0 : Int) (c1_1 : Int) (c1_2 : Int) (c1_3 : Int) (h0_7 : Ints 2 w s0_7 (dues l0_7)) : Calls Try.prog 4 #[.agg #[.int .i64 c0_0, .int .i64 c0_1, .int .i64 c0_2, .int .i64 c0_3, .int .i64 c0_4, .int .i64 c0_5, .int .i64 c0_6, s0_7, .bool c0_8, .int .i64 c0_9, .int .i64 c0_10, .int .i64 c0_11, .int .i64 c0_12, .int .i64 c0_13, .int .i64 c0_14], .agg #[.int .i64 c1_0, .int .i64 c1_1, .int .i64 c1_2, .int .i64 c1_3]] w (RetV w (.bool true)) := by
  obtain ⟨a0_7, n0_7, k0_7, rfl⟩ := h0_7.shape
  have h0 : RdSched w (.agg #[.int .i64 c0_0, .int .i64 c0_1, .int .i64 c0_2, .int .i64 c0_3, .int .i64 c0_4, .int .i64 c0_5, .int .i64 c0_6, .slice a0_7 n0_7 k0_7, .bool c0_8, .int .i64 c0_9, .int .i64 c0_10, .int .i64 c0_11, .int .i64 c0_12, .int .i64 c0_13, .int .i64 c0_14]) ⟨c0_0, c0_1, ⟨⟨c0_2, c0_3, c0_4, c0_5, c0_6, l0_7⟩⟩, c0_8, ⟨c0_9, c0_10, c0_11, c0_12, c0_13⟩, c0_14⟩ := ⟨_, rfl, h0_7⟩
  obtain ⟨S, hS0⟩ : ∃ S : DSched, S = ⟨c0_0, c0_1, ⟨⟨c0_2, c0_3, c0_4, c0_5, c0_6, l0_7⟩⟩, c0_8, ⟨c0_9, c0_10, c0_11, c0_12, c0_13⟩, c0_14⟩ := ⟨_, rfl⟩
  rw [← hS0] at h0
  go_enter Try.func4, Try.ntmps4
  go_wp2_with fail
  refine (sz_Sched (h0.ext (by exact extT)) (by omega) (by omega)).mono ?_
  rintro e w1 ⟨v1, rfl, hx1, hv1⟩
  have X1 : Ext w w1 := by exact extT
  have Ba : Blk w1 w.heap.size 30 #[.int .i64 c0_0, .int .i64 c0_1, .int .i64 c0_2, .int .i64 c0_3, .int .i64 c0_4, .int .i64 c0_5, .int .i64 c0_6, .slice a0_7 n0_7 k0_7, .bool c0_8, .int .i64 c0_9, .int .i64 c0_10, .int .i64 c0_11, .int .i64 c0_12, .int .i64 c0_13, .int .i64 c0_14] := ((Blk.new _ _ _).alloc _).ext hx1
  have Bb : Blk w1 (w.heap.size + 1) 49 #[.int .i64 c1_0, .int .i64 c1_1, .int .i64 c1_2, .int .i64 c1_3] := (Blk.new2 _ _ _ _).ext hx1
  have Z1 := X1.size; have E1 := X1; clear hx1
  have MBa := Ba.lt; have MBb := Bb.lt
  have CBa := Ba.cell; have LBa := Ba.lt; have CBb := Bb.cell; have LBb := Bb.lt
  rcases hv1 with ⟨rfl, qz⟩ | ⟨rfl, qz⟩
  · go_wp2; go_ret; exact ⟨rfl, by exact extT⟩
  have q0_0 : S.View.Jobs.Open.length ≤ 1048576 := by omega
  have nx := numSched_le (s := S) q0_0
  have nb := nAk S c1_0 c1_1 c1_2 c1_3
  clear hS0 qz h0_7
  go_wp2_with fail
  clear CBa LBa CBb LBb
  go_cut [6] (fun sx wx => ∃ aw7 nw7 kw7, ∃ gg : Nat, sx = .pointer (some ⟨gg, 0, none⟩) ∧ Ext w1 wx ∧ w1.heap.size ≤ gg ∧ Blk wx gg 41 #[.int .i64 (ackH S c1_0 c1_1 c1_2 c1_3).Id, .int .i64 (ackH S c1_0 c1_1 c1_2 c1_3).Seq, .int .i64 (ackH S c1_0 c1_1 c1_2 c1_3).View.Jobs.Index, .int .i64 (ackH S c1_0 c1_1 c1_2 c1_3).View.Jobs.Time, .int .i64 (ackH S c1_0 c1_1 c1_2 c1_3).View.Jobs.Holder, .int .i64 (ackH S c1_0 c1_1 c1_2 c1_3).View.Jobs.Epoch, .int .i64 (ackH S c1_0 c1_1 c1_2 c1_3).View.Jobs.Until, .slice aw7 nw7 kw7, .bool (ackH S c1_0 c1_1 c1_2 c1_3).Busy, .int .i64 (ackH S c1_0 c1_1 c1_2 c1_3).Op.Kind, .int .i64 (ackH S c1_0 c1_1 c1_2 c1_3).Op.A, .int .i64 (ackH S c1_0 c1_1 c1_2 c1_3).Op.B, .int .i64 (ackH S c1_0 c1_1 c1_2 c1_3).Op.C, .int .i64 (ackH S c1_0 c1_1 c1_2 c1_3).Op.D, .int .i64 (ackH S c1_0 c1_1 c1_2 c1_3).Index] ∧ ∃ F, OwSched w1.heap.size wx (.agg #[.int .i64 (ackH S c1_0 c1_1 c1_2 c1_3).Id, .int .i64 (ackH S c1_0 c1_1 c1_2 c1_3).Seq, .int .i64 (ackH S c1_0 c1_1 c1_2 c1_3).View.Jobs.Index, .int .i64 (ackH S c1_0 c1_1 c1_2 c1_3).View.Jobs.Time, .int .i64 (ackH S c1_0 c1_1 c1_2 c1_3).View.Jobs.Holder, .int .i64 (ackH S c1_0 c1_1 c1_2 c1_3).View.Jobs.Epoch, .int .i64 (ackH S c1_0 c1_1 c1_2 c1_3).View.Jobs.Until, .slice aw7 nw7 kw7, .bool (ackH S c1_0 c1_1 c1_2 c1_3).Busy, .int .i64 (ackH S c1_0 c1_1 c1_2 c1_3).Op.Kind, .int .i64 (ackH S c1_0 c1_1 c1_2 c1_3).Op.A, .int .i64 (ackH S c1_0 c1_1 c1_2 c1_3).Op.B, .int .i64 (ackH S c1_0 c1_1 c1_2 c1_3).Op.C, .int .i64 (ackH S c1_0 c1_1 c1_2 c1_3).Op.D, .int .i64 (ackH S c1_0 c1_1 c1_2 c1_3).Index]) (ackH S c1_0 c1_1 c1_2 c1_3) F ∧ (∀ k, k ∈ F → k < wx.heap.size ∧ k ≠ gg))
  case first =>
    refine wp_region_held_drew (S := (fun w' => Ext w1 w')) (by kernel_rfl) (by (try dsimp only); exact extT) (fun hHeld => ?_)
    refine wpAnyH_take (i := 0) (v := ?_) rfl (by kernel_rfl) (by kernel_rfl) (by kernel_rfl) (fun _ _ _ h => h) (Or.inl ⟨by rfl, ?_⟩) (by assumption) ?_
    rotate_left
    focus (intro w hSw; (try dsimp only at hSw); have hq := (Ba.ext hSw).cell; have hq2 := (Ba.ext hSw).lt; go_simp <;> with_reducible rfl)
    (try simp only [List.getElem_toArray, List.getElem_cons_zero, List.getElem_cons_succ, Act.put, List.setIfInBounds_toArray, List.set_cons_zero, List.set_cons_succ])
    refine wpAnyH_take (i := 2) (v := ?_) rfl (by kernel_rfl) (by kernel_rfl) (by kernel_rfl) (fun _ _ _ h => h) (Or.inl ⟨by rfl, ?_⟩) (by assumption) ?_
    rotate_left
    focus (intro w hSw; (try dsimp only at hSw); have hq := (Bb.ext hSw).cell; have hq2 := (Bb.ext hSw).lt; go_simp <;> with_reducible rfl)
    (try simp only [List.getElem_toArray, List.getElem_cons_zero, List.getElem_cons_succ, Act.put, List.setIfInBounds_toArray, List.set_cons_zero, List.set_cons_succ])
    refine wpAnyH_ready (rs := [1, 5]) (by kernel_rfl) (by simp) ?_
    refine AllReadyH.cons rfl (fun Kz hKz => ?_) (AllReadyH.cons rfl (fun Kz hKz => ?_) AllReadyH.nil)
    · (try simp only [List.getElem_toArray, List.getElem_cons_zero, List.getElem_cons_succ])
      go_simp
      (go_at_call 7; refine (to_Sched (h0.ext (Ext.trans E1 (by exact extT))) q0_0).mono ?_; rintro e wa ⟨_, rfl, hxwa, F0, g0⟩; obtain ⟨awp7, nwp7, kwp7, rfl⟩ := g0.rd.shape; have hzwa := hxwa.size; (try simp only [size_drew, World.size_alloc] at hzwa); have XA : Ext w1 wa := Ext.trans (by exact extT) hxwa; (first | (have KU := Blk.ext KU hxwa; have CU := KU.cell; have FU := KU.frozen; have LU := KU.lt) | (have KU : Blk wa w1.heap.size 41 #[.int .i64 0, .int .i64 0, .int .i64 0, .int .i64 0, .int .i64 0, .int .i64 0, .int .i64 0, .slice none 0 0, .bool false, .int .i64 0, .int .i64 0, .int .i64 0, .int .i64 0, .int .i64 0, .int .i64 0] := Blk.ext (Blk.new w1.drew _ _) hxwa; have CU := KU.cell; have FU := KU.frozen; have LU := KU.lt) | skip))
      refine hKz.out _ _ (by (try dsimp only); exact extT) (fun hHeld => ?_)
      clear hKz Kz
      (try simp only [List.getElem_toArray, List.getElem_cons_zero, List.getElem_cons_succ, Act.put, List.setIfInBounds_toArray, List.set_cons_zero, List.set_cons_succ])
      refine wpAnyH_ready (rs := [3, 5]) (by kernel_rfl) (by simp) ?_
      refine AllReadyH.cons rfl (fun Kz hKz => ?_) (AllReadyH.cons rfl (fun Kz hKz => ?_) AllReadyH.nil)
      · (try simp only [List.getElem_toArray, List.getElem_cons_zero, List.getElem_cons_succ])
        go_simp
        (go_at_call 15; refine (toAck_c _ _ _ _ _).mono ?_; rintro e wb ⟨rfl, hxwb⟩; have hzwb := hxwb.size; (try simp only [size_drew, World.size_alloc] at hzwb); have XAB : Ext wa wb := Ext.trans (by exact extT) hxwb; have XB : Ext w1 wb := XA.trans XAB; (first | (have KU := Blk.ext KU hxwb; have CU := KU.cell; have FU := KU.frozen; have LU := KU.lt) | (have KU : Blk wb wa.heap.size 41 #[.int .i64 0, .int .i64 0, .int .i64 0, .int .i64 0, .int .i64 0, .int .i64 0, .int .i64 0, .slice none 0 0, .bool false, .int .i64 0, .int .i64 0, .int .i64 0, .int .i64 0, .int .i64 0, .int .i64 0] := Blk.ext (Blk.new wa _ _) hxwb; have CU := KU.cell; have FU := KU.frozen; have LU := KU.lt) | skip))
        refine hKz.out _ _ (by (try dsimp only); exact extT) (fun hHeld => ?_)
        clear hKz Kz
        (try simp only [List.getElem_toArray, List.getElem_cons_zero, List.getElem_cons_succ, Act.put, List.setIfInBounds_toArray, List.set_cons_zero, List.set_cons_succ])
        refine wpAnyH_ready (rs := [4, 5]) (by kernel_rfl) (by simp) ?_
        refine AllReadyH.cons rfl (fun Kz hKz => ?_) (AllReadyH.cons rfl (fun Kz hKz => ?_) AllReadyH.nil)
        · (try simp only [List.getElem_toArray, List.getElem_cons_zero, List.getElem_cons_succ])
          go_simp
          (go_at_call 14; refine (sAckHeard_f ((g0.rd).ext (Ext.trans XAB (by exact extT))) c1_0 c1_1 c1_2 c1_3).mono ?_; rintro e wc ⟨_, rfl, hxwc, Fr, gr⟩; obtain ⟨aw7, nw7, kw7, rfl⟩ := gr.rd.shape; have hzwc := hxwc.size; (try simp only [size_drew, World.size_alloc] at hzwc); have XBC : Ext wb wc := Ext.trans (by exact extT) hxwc; have XC : Ext w1 wc := XB.trans XBC; have lr := gr.low; (try simp only [World.size_alloc, size_drew] at lr); (first | (have KU := Blk.ext KU hxwc; have CU := KU.cell; have FU := KU.frozen; have LU := KU.lt) | (have KU : Blk wc wb.heap.size 41 #[.int .i64 0, .int .i64 0, .int .i64 0, .int .i64 0, .int .i64 0, .int .i64 0, .int .i64 0, .slice none 0 0, .bool false, .int .i64 0, .int .i64 0, .int .i64 0, .int .i64 0, .int .i64 0, .int .i64 0] := Blk.ext (Blk.new wb _ _) hxwc; have CU := KU.cell; have FU := KU.frozen; have LU := KU.lt) | skip))
          refine hKz.out _ _ (by (try dsimp only); exact extT) (fun hHeld => ?_)
          clear hKz Kz
          (try simp only [List.getElem_toArray, List.getElem_cons_zero, List.getElem_cons_succ, Act.put, List.setIfInBounds_toArray, List.set_cons_zero, List.set_cons_succ])
          refine wpAnyH_ready (rs := [5]) (by kernel_rfl) (by simp) ?_
          refine AllReadyH.cons rfl (fun Kz hKz => ?_) AllReadyH.nil
          (try simp only [List.getElem_toArray, List.getElem_cons_zero, List.getElem_cons_succ])
          go_simp
          refine hKz.out _ _ (by (try dsimp only); exact extT) (fun hHeld => ?_)
          clear hKz Kz
          (try simp only [List.getElem_toArray, List.getElem_cons_zero, List.getElem_cons_succ, Act.put, List.setIfInBounds_toArray, List.set_cons_zero, List.set_cons_succ])
          refine wpAnyH_ready (rs := [6]) (by kernel_rfl) (by simp) ?_
          refine AllReadyH.cons rfl (fun Kz hKz => ?_) AllReadyH.nil
          (try simp only [List.getElem_toArray, List.getElem_cons_zero, List.getElem_cons_succ])
          first | (rw [if_pos (by rfl)]; refine wp_store_row 41 (.tmp 6) (.tmp 22) (by rfl) _ #[.int .i64 (ackH S c1_0 c1_1 c1_2 c1_3).Id, .int .i64 (ackH S c1_0 c1_1 c1_2 c1_3).Seq, .int .i64 (ackH S c1_0 c1_1 c1_2 c1_3).View.Jobs.Index, .int .i64 (ackH S c1_0 c1_1 c1_2 c1_3).View.Jobs.Time, .int .i64 (ackH S c1_0 c1_1 c1_2 c1_3).View.Jobs.Holder, .int .i64 (ackH S c1_0 c1_1 c1_2 c1_3).View.Jobs.Epoch, .int .i64 (ackH S c1_0 c1_1 c1_2 c1_3).View.Jobs.Until, .slice aw7 nw7 kw7, .bool (ackH S c1_0 c1_1 c1_2 c1_3).Busy, .int .i64 (ackH S c1_0 c1_1 c1_2 c1_3).Op.Kind, .int .i64 (ackH S c1_0 c1_1 c1_2 c1_3).Op.A, .int .i64 (ackH S c1_0 c1_1 c1_2 c1_3).Op.B, .int .i64 (ackH S c1_0 c1_1 c1_2 c1_3).Op.C, .int .i64 (ackH S c1_0 c1_1 c1_2 c1_3).Op.D, .int .i64 (ackH S c1_0 c1_1 c1_2 c1_3).Index] (by rfl) (by rfl) 41 _ KU (by kernel_rfl) rfl (by kernel_rfl) ?_) | go_simp
          refine hKz.out _ _ (by (try dsimp only); exact extT) (fun hHeld => ?_)
          clear hKz Kz
          (try simp only [List.getElem_toArray, List.getElem_cons_zero, List.getElem_cons_succ, Act.put, List.setIfInBounds_toArray, List.set_cons_zero, List.set_cons_succ])
          refine wpAnyH_done (by kernel_rfl) ?_ _
          go_wp2_with fail
          go_meet
          case rel =>
            (try simp only [World.size_alloc, size_drew])
            first
              | (refine ⟨aw7, nw7, kw7, wc.heap.size, by with_reducible rfl, ?_⟩; exact ⟨XC.alloc _, XC.size, Blk.new _ _ _, Fr, (gr.ext ((Ext.refl _).alloc _)).mono (by first | omega | (simp only [World.size_alloc, size_drew]; omega)), fun k hk => ⟨by have := lr k hk; (try simp only [World.size_alloc]); omega, by have := lr k hk; omega⟩⟩)
              | (refine ⟨aw7, nw7, kw7, w1.heap.size, by with_reducible rfl, ?_⟩; refine ⟨by exact extT, by omega, Blk.cast (by exact blkT) (by simp only [List.setIfInBounds_toArray, List.set_cons_zero, List.set_cons_succ]), Fr, (gr.upd (fs := [w1.heap.size]) (by first | (with_reducible exact rowU _ _ _) | exact updT) (fun k hk h => by have := lr k hk; simp at h; omega)).mono (by first | omega | (simp only [World.size_alloc, size_drew]; omega)), fun k hk => ⟨by have := lr k hk; (try simp only [size_setRow, World.size_setCell]); omega, by have := lr k hk; omega⟩⟩)
              | (refine ⟨aw7, nw7, kw7, wa.heap.size, by with_reducible rfl, ?_⟩; refine ⟨by exact extT, by omega, Blk.cast (by exact blkT) (by simp only [List.setIfInBounds_toArray, List.set_cons_zero, List.set_cons_succ]), Fr, (gr.upd (fs := [wa.heap.size]) (by first | (with_reducible exact rowU _ _ _) | exact updT) (fun k hk h => by have := lr k hk; simp at h; omega)).mono (by first | omega | (simp only [World.size_alloc, size_drew]; omega)), fun k hk => ⟨by have := lr k hk; (try simp only [size_setRow, World.size_setCell]); omega, by have := lr k hk; omega⟩⟩)
              | (refine ⟨aw7, nw7, kw7, wb.heap.size, by with_reducible rfl, ?_⟩; refine ⟨by exact extT, by omega, Blk.cast (by exact blkT) (by simp only [List.setIfInBounds_toArray, List.set_cons_zero, List.set_cons_succ]), Fr, (gr.upd (fs := [wb.heap.size]) (by first | (with_reducible exact rowU _ _ _) | exact updT) (fun k hk h => by have := lr k hk; simp at h; omega)).mono (by first | omega | (simp only [World.size_alloc, size_drew]; omega)), fun k hk => ⟨by have := lr k hk; (try simp only [size_setRow, World.size_setCell]); omega, by have := lr k hk; omega⟩⟩)
        · (try simp only [List.getElem_toArray, List.getElem_cons_zero, List.getElem_cons_succ])
          go_simp
          refine hKz.out _ _ (by (try dsimp only); exact extT) (fun hHeld => ?_)
          clear hKz Kz
          (try simp only [List.getElem_toArray, List.getElem_cons_zero, List.getElem_cons_succ, Act.put, List.setIfInBounds_toArray, List.set_cons_zero, List.set_cons_succ])
          refine wpAnyH_ready (rs := [4]) (by kernel_rfl) (by simp) ?_
          refine AllReadyH.cons rfl (fun Kz hKz => ?_) AllReadyH.nil
          (try simp only [List.getElem_toArray, List.getElem_cons_zero, List.getElem_cons_succ])
          go_simp
          (go_at_call 14; refine (sAckHeard_f ((g0.rd).ext (Ext.trans XAB (by exact extT))) c1_0 c1_1 c1_2 c1_3).mono ?_; rintro e wc ⟨_, rfl, hxwc, Fr, gr⟩; obtain ⟨aw7, nw7, kw7, rfl⟩ := gr.rd.shape; have hzwc := hxwc.size; (try simp only [size_drew, World.size_alloc] at hzwc); have XBC : Ext wb wc := Ext.trans (by exact extT) hxwc; have XC : Ext w1 wc := XB.trans XBC; have lr := gr.low; (try simp only [World.size_alloc, size_drew] at lr); (first | (have KU := Blk.ext KU hxwc; have CU := KU.cell; have FU := KU.frozen; have LU := KU.lt) | (have KU : Blk wc wb.heap.size 41 #[.int .i64 0, .int .i64 0, .int .i64 0, .int .i64 0, .int .i64 0, .int .i64 0, .int .i64 0, .slice none 0 0, .bool false, .int .i64 0, .int .i64 0, .int .i64 0, .int .i64 0, .int .i64 0, .int .i64 0] := Blk.ext (Blk.new wb _ _) hxwc; have CU := KU.cell; have FU := KU.frozen; have LU := KU.lt) | skip))
          refine hKz.out _ _ (by (try dsimp only); exact extT) (fun hHeld => ?_)
          clear hKz Kz
          (try simp only [List.getElem_toArray, List.getElem_cons_zero, List.getElem_cons_succ, Act.put, List.setIfInBounds_toArray, List.set_cons_zero, List.set_cons_succ])
          refine wpAnyH_ready (rs := [6]) (by kernel_rfl) (by simp) ?_
          refine AllReadyH.cons rfl (fun Kz hKz => ?_) AllReadyH.nil
          (try simp only [List.getElem_toArray, List.getElem_cons_zero, List.getElem_cons_succ])
          first | (rw [if_pos (by rfl)]; refine wp_store_row 41 (.tmp 6) (.tmp 22) (by rfl) _ #[.int .i64 (ackH S c1_0 c1_1 c1_2 c1_3).Id, .int .i64 (ackH S c1_0 c1_1 c1_2 c1_3).Seq, .int .i64 (ackH S c1_0 c1_1 c1_2 c1_3).View.Jobs.Index, .int .i64 (ackH S c1_0 c1_1 c1_2 c1_3).View.Jobs.Time, .int .i64 (ackH S c1_0 c1_1 c1_2 c1_3).View.Jobs.Holder, .int .i64 (ackH S c1_0 c1_1 c1_2 c1_3).View.Jobs.Epoch, .int .i64 (ackH S c1_0 c1_1 c1_2 c1_3).View.Jobs.Until, .slice aw7 nw7 kw7, .bool (ackH S c1_0 c1_1 c1_2 c1_3).Busy, .int .i64 (ackH S c1_0 c1_1 c1_2 c1_3).Op.Kind, .int .i64 (ackH S c1_0 c1_1 c1_2 c1_3).Op.A, .int .i64 (ackH S c1_0 c1_1 c1_2 c1_3).Op.B, .int .i64 (ackH S c1_0 c1_1 c1_2 c1_3).Op.C, .int .i64 (ackH S c1_0 c1_1 c1_2 c1_3).Op.D, .int .i64 (ackH S c1_0 c1_1 c1_2 c1_3).Index] (by rfl) (by rfl) 41 _ KU (by kernel_rfl) rfl (by kernel_rfl) ?_) | go_simp
          refine hKz.out _ _ (by (try dsimp only); exact extT) (fun hHeld => ?_)
          clear hKz Kz
          (try simp only [List.getElem_toArray, List.getElem_cons_zero, List.getElem_cons_succ, Act.put, List.setIfInBounds_toArray, List.set_cons_zero, List.set_cons_succ])
          refine wpAnyH_done (by kernel_rfl) ?_ _
          go_wp2_with fail
          go_meet
          case rel =>
            (try simp only [World.size_alloc, size_drew])
            first
              | (refine ⟨aw7, nw7, kw7, wc.heap.size, by with_reducible rfl, ?_⟩; exact ⟨XC.alloc _, XC.size, Blk.new _ _ _, Fr, (gr.ext ((Ext.refl _).alloc _)).mono (by first | omega | (simp only [World.size_alloc, size_drew]; omega)), fun k hk => ⟨by have := lr k hk; (try simp only [World.size_alloc]); omega, by have := lr k hk; omega⟩⟩)
              | (refine ⟨aw7, nw7, kw7, w1.heap.size, by with_reducible rfl, ?_⟩; refine ⟨by exact extT, by omega, Blk.cast (by exact blkT) (by simp only [List.setIfInBounds_toArray, List.set_cons_zero, List.set_cons_succ]), Fr, (gr.upd (fs := [w1.heap.size]) (by first | (with_reducible exact rowU _ _ _) | exact updT) (fun k hk h => by have := lr k hk; simp at h; omega)).mono (by first | omega | (simp only [World.size_alloc, size_drew]; omega)), fun k hk => ⟨by have := lr k hk; (try simp only [size_setRow, World.size_setCell]); omega, by have := lr k hk; omega⟩⟩)
              | (refine ⟨aw7, nw7, kw7, wa.heap.size, by with_reducible rfl, ?_⟩; refine ⟨by exact extT, by omega, Blk.cast (by exact blkT) (by simp only [List.setIfInBounds_toArray, List.set_cons_zero, List.set_cons_succ]), Fr, (gr.upd (fs := [wa.heap.size]) (by first | (with_reducible exact rowU _ _ _) | exact updT) (fun k hk h => by have := lr k hk; simp at h; omega)).mono (by first | omega | (simp only [World.size_alloc, size_drew]; omega)), fun k hk => ⟨by have := lr k hk; (try simp only [size_setRow, World.size_setCell]); omega, by have := lr k hk; omega⟩⟩)
              | (refine ⟨aw7, nw7, kw7, wb.heap.size, by with_reducible rfl, ?_⟩; refine ⟨by exact extT, by omega, Blk.cast (by exact blkT) (by simp only [List.setIfInBounds_toArray, List.set_cons_zero, List.set_cons_succ]), Fr, (gr.upd (fs := [wb.heap.size]) (by first | (with_reducible exact rowU _ _ _) | exact updT) (fun k hk h => by have := lr k hk; simp at h; omega)).mono (by first | omega | (simp only [World.size_alloc, size_drew]; omega)), fun k hk => ⟨by have := lr k hk; (try simp only [size_setRow, World.size_setCell]); omega, by have := lr k hk; omega⟩⟩)
      · (try simp only [List.getElem_toArray, List.getElem_cons_zero, List.getElem_cons_succ])
        go_simp
        refine hKz.out _ _ (by (try dsimp only); exact extT) (fun hHeld => ?_)
        clear hKz Kz
        (try simp only [List.getElem_toArray, List.getElem_cons_zero, List.getElem_cons_succ, Act.put, List.setIfInBounds_toArray, List.set_cons_zero, List.set_cons_succ])
        refine wpAnyH_ready (rs := [3]) (by kernel_rfl) (by simp) ?_
        refine AllReadyH.cons rfl (fun Kz hKz => ?_) AllReadyH.nil
        (try simp only [List.getElem_toArray, List.getElem_cons_zero, List.getElem_cons_succ])
        go_simp
        (go_at_call 15; refine (toAck_c _ _ _ _ _).mono ?_; rintro e wb ⟨rfl, hxwb⟩; have hzwb := hxwb.size; (try simp only [size_drew, World.size_alloc] at hzwb); have XAB : Ext wa wb := Ext.trans (by exact extT) hxwb; have XB : Ext w1 wb := XA.trans XAB; (first | (have KU := Blk.ext KU hxwb; have CU := KU.cell; have FU := KU.frozen; have LU := KU.lt) | (have KU : Blk wb wa.heap.size 41 #[.int .i64 0, .int .i64 0, .int .i64 0, .int .i64 0, .int .i64 0, .int .i64 0, .int .i64 0, .slice none 0 0, .bool false, .int .i64 0, .int .i64 0, .int .i64 0, .int .i64 0, .int .i64 0, .int .i64 0] := Blk.ext (Blk.new wa _ _) hxwb; have CU := KU.cell; have FU := KU.frozen; have LU := KU.lt) | skip))
        refine hKz.out _ _ (by (try dsimp only); exact extT) (fun hHeld => ?_)
        clear hKz Kz
        (try simp only [List.getElem_toArray, List.getElem_cons_zero, List.getElem_cons_succ, Act.put, List.setIfInBounds_toArray, List.set_cons_zero, List.set_cons_succ])
        refine wpAnyH_ready (rs := [4]) (by kernel_rfl) (by simp) ?_
        refine AllReadyH.cons rfl (fun Kz hKz => ?_) AllReadyH.nil
        (try simp only [List.getElem_toArray, List.getElem_cons_zero, List.getElem_cons_succ])
        go_simp
        (go_at_call 14; refine (sAckHeard_f ((g0.rd).ext (Ext.trans XAB (by exact extT))) c1_0 c1_1 c1_2 c1_3).mono ?_; rintro e wc ⟨_, rfl, hxwc, Fr, gr⟩; obtain ⟨aw7, nw7, kw7, rfl⟩ := gr.rd.shape; have hzwc := hxwc.size; (try simp only [size_drew, World.size_alloc] at hzwc); have XBC : Ext wb wc := Ext.trans (by exact extT) hxwc; have XC : Ext w1 wc := XB.trans XBC; have lr := gr.low; (try simp only [World.size_alloc, size_drew] at lr); (first | (have KU := Blk.ext KU hxwc; have CU := KU.cell; have FU := KU.frozen; have LU := KU.lt) | (have KU : Blk wc wb.heap.size 41 #[.int .i64 0, .int .i64 0, .int .i64 0, .int .i64 0, .int .i64 0, .int .i64 0, .int .i64 0, .slice none 0 0, .bool false, .int .i64 0, .int .i64 0, .int .i64 0, .int .i64 0, .int .i64 0, .int .i64 0] := Blk.ext (Blk.new wb _ _) hxwc; have CU := KU.cell; have FU := KU.frozen; have LU := KU.lt) | skip))
        refine hKz.out _ _ (by (try dsimp only); exact extT) (fun hHeld => ?_)
        clear hKz Kz
        (try simp only [List.getElem_toArray, List.getElem_cons_zero, List.getElem_cons_succ, Act.put, List.setIfInBounds_toArray, List.set_cons_zero, List.set_cons_succ])
        refine wpAnyH_ready (rs := [6]) (by kernel_rfl) (by simp) ?_
        refine AllReadyH.cons rfl (fun Kz hKz => ?_) AllReadyH.nil
        (try simp only [List.getElem_toArray, List.getElem_cons_zero, List.getElem_cons_succ])
        first | (rw [if_pos (by rfl)]; refine wp_store_row 41 (.tmp 6) (.tmp 22) (by rfl) _ #[.int .i64 (ackH S c1_0 c1_1 c1_2 c1_3).Id, .int .i64 (ackH S c1_0 c1_1 c1_2 c1_3).Seq, .int .i64 (ackH S c1_0 c1_1 c1_2 c1_3).View.Jobs.Index, .int .i64 (ackH S c1_0 c1_1 c1_2 c1_3).View.Jobs.Time, .int .i64 (ackH S c1_0 c1_1 c1_2 c1_3).View.Jobs.Holder, .int .i64 (ackH S c1_0 c1_1 c1_2 c1_3).View.Jobs.Epoch, .int .i64 (ackH S c1_0 c1_1 c1_2 c1_3).View.Jobs.Until, .slice aw7 nw7 kw7, .bool (ackH S c1_0 c1_1 c1_2 c1_3).Busy, .int .i64 (ackH S c1_0 c1_1 c1_2 c1_3).Op.Kind, .int .i64 (ackH S c1_0 c1_1 c1_2 c1_3).Op.A, .int .i64 (ackH S c1_0 c1_1 c1_2 c1_3).Op.B, .int .i64 (ackH S c1_0 c1_1 c1_2 c1_3).Op.C, .int .i64 (ackH S c1_0 c1_1 c1_2 c1_3).Op.D, .int .i64 (ackH S c1_0 c1_1 c1_2 c1_3).Index] (by rfl) (by rfl) 41 _ KU (by kernel_rfl) rfl (by kernel_rfl) ?_) | go_simp
        refine hKz.out _ _ (by (try dsimp only); exact extT) (fun hHeld => ?_)
        clear hKz Kz
        (try simp only [List.getElem_toArray, List.getElem_cons_zero, List.getElem_cons_succ, Act.put, List.setIfInBounds_toArray, List.set_cons_zero, List.set_cons_succ])
        refine wpAnyH_done (by kernel_rfl) ?_ _
        go_wp2_with fail
        go_meet
        case rel =>
          (try simp only [World.size_alloc, size_drew])
          first
            | (refine ⟨aw7, nw7, kw7, wc.heap.size, by with_reducible rfl, ?_⟩; exact ⟨XC.alloc _, XC.size, Blk.new _ _ _, Fr, (gr.ext ((Ext.refl _).alloc _)).mono (by first | omega | (simp only [World.size_alloc, size_drew]; omega)), fun k hk => ⟨by have := lr k hk; (try simp only [World.size_alloc]); omega, by have := lr k hk; omega⟩⟩)
            | (refine ⟨aw7, nw7, kw7, w1.heap.size, by with_reducible rfl, ?_⟩; refine ⟨by exact extT, by omega, Blk.cast (by exact blkT) (by simp only [List.setIfInBounds_toArray, List.set_cons_zero, List.set_cons_succ]), Fr, (gr.upd (fs := [w1.heap.size]) (by first | (with_reducible exact rowU _ _ _) | exact updT) (fun k hk h => by have := lr k hk; simp at h; omega)).mono (by first | omega | (simp only [World.size_alloc, size_drew]; omega)), fun k hk => ⟨by have := lr k hk; (try simp only [size_setRow, World.size_setCell]); omega, by have := lr k hk; omega⟩⟩)
            | (refine ⟨aw7, nw7, kw7, wa.heap.size, by with_reducible rfl, ?_⟩; refine ⟨by exact extT, by omega, Blk.cast (by exact blkT) (by simp only [List.setIfInBounds_toArray, List.set_cons_zero, List.set_cons_succ]), Fr, (gr.upd (fs := [wa.heap.size]) (by first | (with_reducible exact rowU _ _ _) | exact updT) (fun k hk h => by have := lr k hk; simp at h; omega)).mono (by first | omega | (simp only [World.size_alloc, size_drew]; omega)), fun k hk => ⟨by have := lr k hk; (try simp only [size_setRow, World.size_setCell]); omega, by have := lr k hk; omega⟩⟩)
            | (refine ⟨aw7, nw7, kw7, wb.heap.size, by with_reducible rfl, ?_⟩; refine ⟨by exact extT, by omega, Blk.cast (by exact blkT) (by simp only [List.setIfInBounds_toArray, List.set_cons_zero, List.set_cons_succ]), Fr, (gr.upd (fs := [wb.heap.size]) (by first | (with_reducible exact rowU _ _ _) | exact updT) (fun k hk h => by have := lr k hk; simp at h; omega)).mono (by first | omega | (simp only [World.size_alloc, size_drew]; omega)), fun k hk => ⟨by have := lr k hk; (try simp only [size_setRow, World.size_setCell]); omega, by have := lr k hk; omega⟩⟩)
    · (try simp only [List.getElem_toArray, List.getElem_cons_zero, List.getElem_cons_succ])
      go_simp
      refine hKz.out _ _ (by (try dsimp only); exact extT) (fun hHeld => ?_)
      clear hKz Kz
      (try simp only [List.getElem_toArray, List.getElem_cons_zero, List.getElem_cons_succ, Act.put, List.setIfInBounds_toArray, List.set_cons_zero, List.set_cons_succ])
      refine wpAnyH_ready (rs := [1]) (by kernel_rfl) (by simp) ?_
      refine AllReadyH.cons rfl (fun Kz hKz => ?_) AllReadyH.nil
      (try simp only [List.getElem_toArray, List.getElem_cons_zero, List.getElem_cons_succ])
      go_simp
      (go_at_call 7; refine (to_Sched (h0.ext (Ext.trans E1 (by exact extT))) q0_0).mono ?_; rintro e wa ⟨_, rfl, hxwa, F0, g0⟩; obtain ⟨awp7, nwp7, kwp7, rfl⟩ := g0.rd.shape; have hzwa := hxwa.size; (try simp only [size_drew, World.size_alloc] at hzwa); have XA : Ext w1 wa := Ext.trans (by exact extT) hxwa; (first | (have KU := Blk.ext KU hxwa; have CU := KU.cell; have FU := KU.frozen; have LU := KU.lt) | (have KU : Blk wa w1.heap.size 41 #[.int .i64 0, .int .i64 0, .int .i64 0, .int .i64 0, .int .i64 0, .int .i64 0, .int .i64 0, .slice none 0 0, .bool false, .int .i64 0, .int .i64 0, .int .i64 0, .int .i64 0, .int .i64 0, .int .i64 0] := Blk.ext (Blk.new w1.drew _ _) hxwa; have CU := KU.cell; have FU := KU.frozen; have LU := KU.lt) | skip))
      refine hKz.out _ _ (by (try dsimp only); exact extT) (fun hHeld => ?_)
      clear hKz Kz
      (try simp only [List.getElem_toArray, List.getElem_cons_zero, List.getElem_cons_succ, Act.put, List.setIfInBounds_toArray, List.set_cons_zero, List.set_cons_succ])
      refine wpAnyH_ready (rs := [3]) (by kernel_rfl) (by simp) ?_
      refine AllReadyH.cons rfl (fun Kz hKz => ?_) AllReadyH.nil
      (try simp only [List.getElem_toArray, List.getElem_cons_zero, List.getElem_cons_succ])
      go_simp
      (go_at_call 15; refine (toAck_c _ _ _ _ _).mono ?_; rintro e wb ⟨rfl, hxwb⟩; have hzwb := hxwb.size; (try simp only [size_drew, World.size_alloc] at hzwb); have XAB : Ext wa wb := Ext.trans (by exact extT) hxwb; have XB : Ext w1 wb := XA.trans XAB; (first | (have KU := Blk.ext KU hxwb; have CU := KU.cell; have FU := KU.frozen; have LU := KU.lt) | (have KU : Blk wb wa.heap.size 41 #[.int .i64 0, .int .i64 0, .int .i64 0, .int .i64 0, .int .i64 0, .int .i64 0, .int .i64 0, .slice none 0 0, .bool false, .int .i64 0, .int .i64 0, .int .i64 0, .int .i64 0, .int .i64 0, .int .i64 0] := Blk.ext (Blk.new wa _ _) hxwb; have CU := KU.cell; have FU := KU.frozen; have LU := KU.lt) | skip))
      refine hKz.out _ _ (by (try dsimp only); exact extT) (fun hHeld => ?_)
      clear hKz Kz
      (try simp only [List.getElem_toArray, List.getElem_cons_zero, List.getElem_cons_succ, Act.put, List.setIfInBounds_toArray, List.set_cons_zero, List.set_cons_succ])
      refine wpAnyH_ready (rs := [4]) (by kernel_rfl) (by simp) ?_
      refine AllReadyH.cons rfl (fun Kz hKz => ?_) AllReadyH.nil
      (try simp only [List.getElem_toArray, List.getElem_cons_zero, List.getElem_cons_succ])
      go_simp
      (go_at_call 14; refine (sAckHeard_f ((g0.rd).ext (Ext.trans XAB (by exact extT))) c1_0 c1_1 c1_2 c1_3).mono ?_; rintro e wc ⟨_, rfl, hxwc, Fr, gr⟩; obtain ⟨aw7, nw7, kw7, rfl⟩ := gr.rd.shape; have hzwc := hxwc.size; (try simp only [size_drew, World.size_alloc] at hzwc); have XBC : Ext wb wc := Ext.trans (by exact extT) hxwc; have XC : Ext w1 wc := XB.trans XBC; have lr := gr.low; (try simp only [World.size_alloc, size_drew] at lr); (first | (have KU := Blk.ext KU hxwc; have CU := KU.cell; have FU := KU.frozen; have LU := KU.lt) | (have KU : Blk wc wb.heap.size 41 #[.int .i64 0, .int .i64 0, .int .i64 0, .int .i64 0, .int .i64 0, .int .i64 0, .int .i64 0, .slice none 0 0, .bool false, .int .i64 0, .int .i64 0, .int .i64 0, .int .i64 0, .int .i64 0, .int .i64 0] := Blk.ext (Blk.new wb _ _) hxwc; have CU := KU.cell; have FU := KU.frozen; have LU := KU.lt) | skip))
      refine hKz.out _ _ (by (try dsimp only); exact extT) (fun hHeld => ?_)
      clear hKz Kz
      (try simp only [List.getElem_toArray, List.getElem_cons_zero, List.getElem_cons_succ, Act.put, List.setIfInBounds_toArray, List.set_cons_zero, List.set_cons_succ])
      refine wpAnyH_ready (rs := [6]) (by kernel_rfl) (by simp) ?_
      refine AllReadyH.cons rfl (fun Kz hKz => ?_) AllReadyH.nil
      (try simp only [List.getElem_toArray, List.getElem_cons_zero, List.getElem_cons_succ])
      first | (rw [if_pos (by rfl)]; refine wp_store_row 41 (.tmp 6) (.tmp 22) (by rfl) _ #[.int .i64 (ackH S c1_0 c1_1 c1_2 c1_3).Id, .int .i64 (ackH S c1_0 c1_1 c1_2 c1_3).Seq, .int .i64 (ackH S c1_0 c1_1 c1_2 c1_3).View.Jobs.Index, .int .i64 (ackH S c1_0 c1_1 c1_2 c1_3).View.Jobs.Time, .int .i64 (ackH S c1_0 c1_1 c1_2 c1_3).View.Jobs.Holder, .int .i64 (ackH S c1_0 c1_1 c1_2 c1_3).View.Jobs.Epoch, .int .i64 (ackH S c1_0 c1_1 c1_2 c1_3).View.Jobs.Until, .slice aw7 nw7 kw7, .bool (ackH S c1_0 c1_1 c1_2 c1_3).Busy, .int .i64 (ackH S c1_0 c1_1 c1_2 c1_3).Op.Kind, .int .i64 (ackH S c1_0 c1_1 c1_2 c1_3).Op.A, .int .i64 (ackH S c1_0 c1_1 c1_2 c1_3).Op.B, .int .i64 (ackH S c1_0 c1_1 c1_2 c1_3).Op.C, .int .i64 (ackH S c1_0 c1_1 c1_2 c1_3).Op.D, .int .i64 (ackH S c1_0 c1_1 c1_2 c1_3).Index] (by rfl) (by rfl) 41 _ KU (by kernel_rfl) rfl (by kernel_rfl) ?_) | go_simp
      refine hKz.out _ _ (by (try dsimp only); exact extT) (fun hHeld => ?_)
      clear hKz Kz
      (try simp only [List.getElem_toArray, List.getElem_cons_zero, List.getElem_cons_succ, Act.put, List.setIfInBounds_toArray, List.set_cons_zero, List.set_cons_succ])
      refine wpAnyH_done (by kernel_rfl) ?_ _
      go_wp2_with fail
      go_meet
      case rel =>
        (try simp only [World.size_alloc, size_drew])
        first
          | (refine ⟨aw7, nw7, kw7, wc.heap.size, by with_reducible rfl, ?_⟩; exact ⟨XC.alloc _, XC.size, Blk.new _ _ _, Fr, (gr.ext ((Ext.refl _).alloc _)).mono (by first | omega | (simp only [World.size_alloc, size_drew]; omega)), fun k hk => ⟨by have := lr k hk; (try simp only [World.size_alloc]); omega, by have := lr k hk; omega⟩⟩)
          | (refine ⟨aw7, nw7, kw7, w1.heap.size, by with_reducible rfl, ?_⟩; refine ⟨by exact extT, by omega, Blk.cast (by exact blkT) (by simp only [List.setIfInBounds_toArray, List.set_cons_zero, List.set_cons_succ]), Fr, (gr.upd (fs := [w1.heap.size]) (by first | (with_reducible exact rowU _ _ _) | exact updT) (fun k hk h => by have := lr k hk; simp at h; omega)).mono (by first | omega | (simp only [World.size_alloc, size_drew]; omega)), fun k hk => ⟨by have := lr k hk; (try simp only [size_setRow, World.size_setCell]); omega, by have := lr k hk; omega⟩⟩)
          | (refine ⟨aw7, nw7, kw7, wa.heap.size, by with_reducible rfl, ?_⟩; refine ⟨by exact extT, by omega, Blk.cast (by exact blkT) (by simp only [List.setIfInBounds_toArray, List.set_cons_zero, List.set_cons_succ]), Fr, (gr.upd (fs := [wa.heap.size]) (by first | (with_reducible exact rowU _ _ _) | exact updT) (fun k hk h => by have := lr k hk; simp at h; omega)).mono (by first | omega | (simp only [World.size_alloc, size_drew]; omega)), fun k hk => ⟨by have := lr k hk; (try simp only [size_setRow, World.size_setCell]); omega, by have := lr k hk; omega⟩⟩)
          | (refine ⟨aw7, nw7, kw7, wb.heap.size, by with_reducible rfl, ?_⟩; refine ⟨by exact extT, by omega, Blk.cast (by exact blkT) (by simp only [List.setIfInBounds_toArray, List.set_cons_zero, List.set_cons_succ]), Fr, (gr.upd (fs := [wb.heap.size]) (by first | (with_reducible exact rowU _ _ _) | exact updT) (fun k hk h => by have := lr k hk; simp at h; omega)).mono (by first | omega | (simp only [World.size_alloc, size_drew]; omega)), fun k hk => ⟨by have := lr k hk; (try simp only [size_setRow, World.size_setCell]); omega, by have := lr k hk; omega⟩⟩)
  case rest =>
    revert wc; intro w2 hcut
    obtain ⟨aw7, nw7, kw7, bw, rfl, X2, hgew, Bw, Fw, gw, hlow⟩ := hcut
    have lw : ∀ k, k ∈ Fw → w1.heap.size ≤ k ∧ k < w2.heap.size := fun k hk => ⟨(gw.low k hk).1, (hlow k hk).1⟩
    have hb2w : ∀ k, k ∈ Fw → k ≠ bw := fun k hk => (hlow k hk).2
    clear hlow
    have MBw := Bw.lt
    have Z2 := X2.size; have E2 : Ext w w2 := E1.trans X2
    replace Ba := Ba.ext X2
    replace Bb := Bb.ext X2
    have CBa := Ba.cell; have LBa := Ba.lt
    have CBb := Bb.cell; have LBb := Bb.lt
    have CBw := Bw.cell; have LBw := Bw.lt
    as_aux_lemma =>
      go_wp2_with fail
      refine (to_Sched (h0.ext (by repeat' (first | (with_reducible exact Ext.refl _) | (with_reducible assumption) | (with_reducible refine Ext.drewN ?_ _) | (with_reducible refine Ext.drew ?_) | (with_reducible refine Ext.alloc ?_ _) | (with_reducible refine Ext.setCell ?_ ?_ _) | (with_reducible refine Ext.setRow ?_ ?_ _) | (with_reducible exact Nat.le_refl _) | (with_reducible refine Ext.trans ?_ (by assumption)) | omega))) q0_0).mono ?_
      rintro e w3 ⟨_, rfl, hx3, Fx, gx⟩
      obtain ⟨ax7, nx7, kx7, rfl⟩ := gx.rd.shape
      have lx := gx.low; (try simp only [World.size_alloc] at lx)
      have X3 : Ext w2 w3 := by repeat' (first | (with_reducible exact Ext.refl _) | (with_reducible assumption) | (with_reducible refine Ext.drewN ?_ _) | (with_reducible refine Ext.drew ?_) | (with_reducible refine Ext.alloc ?_ _) | (with_reducible refine Ext.setCell ?_ ?_ _) | (with_reducible refine Ext.setRow ?_ ?_ _) | (with_reducible exact Nat.le_refl _) | (with_reducible refine Ext.trans ?_ (by assumption)) | omega)
      have Z3 := X3.size
      have E3 : Ext w w3 := E2.trans X3
      replace Ba := Ba.ext X3
      replace Bb := Bb.ext X3
      replace Bw := Bw.ext X3
      replace gw := gw.ext X3
      clear hx3
      clear CBa LBa CBb LBb CBw LBw
      have CBa := Ba.cell; have LBa := Ba.lt
      have CBb := Bb.cell; have LBb := Bb.lt
      have CBw := Bw.cell; have LBw := Bw.lt
      go_wp2_with fail
      have KX0 : Blk (w3.alloc (.cells #[.int .i64 S.Id, .int .i64 S.Seq, .int .i64 S.View.Jobs.Index, .int .i64 S.View.Jobs.Time, .int .i64 S.View.Jobs.Holder, .int .i64 S.View.Jobs.Epoch, .int .i64 S.View.Jobs.Until, .slice ax7 nx7 kx7, .bool S.Busy, .int .i64 S.Op.Kind, .int .i64 S.Op.A, .int .i64 S.Op.B, .int .i64 S.Op.C, .int .i64 S.Op.D, .int .i64 S.Index] 41)) w3.heap.size 41 #[.int .i64 S.Id, .int .i64 S.Seq, .int .i64 S.View.Jobs.Index, .int .i64 S.View.Jobs.Time, .int .i64 S.View.Jobs.Holder, .int .i64 S.View.Jobs.Epoch, .int .i64 S.View.Jobs.Until, .slice ax7 nx7 kx7, .bool S.Busy, .int .i64 S.Op.Kind, .int .i64 S.Op.A, .int .i64 S.Op.B, .int .i64 S.Op.C, .int .i64 S.Op.D, .int .i64 S.Index] := Blk.new _ _ _
      obtain ⟨w4, hw4⟩ : ∃ x, x = w3.alloc (.cells #[.int .i64 S.Id, .int .i64 S.Seq, .int .i64 S.View.Jobs.Index, .int .i64 S.View.Jobs.Time, .int .i64 S.View.Jobs.Holder, .int .i64 S.View.Jobs.Epoch, .int .i64 S.View.Jobs.Until, .slice ax7 nx7 kx7, .bool S.Busy, .int .i64 S.Op.Kind, .int .i64 S.Op.A, .int .i64 S.Op.B, .int .i64 S.Op.C, .int .i64 S.Op.D, .int .i64 S.Index] 41) := ⟨_, rfl⟩
      rw [← hw4] at KX0 ⊢
      have X4 : Ext w3 w4 := by rw [hw4]; exact (Ext.refl _).alloc _
      have Bx := KX0; clear KX0 hw4; have MBx := Bx.lt
      have Z4 := X4.size; have E4 : Ext w w4 := E3.trans X4
      replace Ba := Ba.ext X4
      replace Bb := Bb.ext X4
      replace Bw := Bw.ext X4
      replace gw := gw.ext X4
      replace gx := gx.ext X4
      clear CBa LBa CBb LBb CBw LBw
      have CBa := Ba.cell; have LBa := Ba.lt
      have CBb := Bb.cell; have LBb := Bb.lt
      have CBw := Bw.cell; have LBw := Bw.lt
      have CBx := Bx.cell; have LBx := Bx.lt
      as_aux_lemma =>
        go_wp2_with fail
        clear CBa LBa CBb LBb CBw LBw CBx LBx
        go_cut [8] (fun sx wx => ∃ ag7 ng7 kg7, ∃ gg : Nat, sx = .pointer (some ⟨gg, 0, none⟩) ∧ Ext w4 wx ∧ w4.heap.size ≤ gg ∧ Blk wx gg 41 #[.int .i64 (ackH S c1_0 c1_1 c1_2 c1_3).Id, .int .i64 (ackH S c1_0 c1_1 c1_2 c1_3).Seq, .int .i64 (ackH S c1_0 c1_1 c1_2 c1_3).View.Jobs.Index, .int .i64 (ackH S c1_0 c1_1 c1_2 c1_3).View.Jobs.Time, .int .i64 (ackH S c1_0 c1_1 c1_2 c1_3).View.Jobs.Holder, .int .i64 (ackH S c1_0 c1_1 c1_2 c1_3).View.Jobs.Epoch, .int .i64 (ackH S c1_0 c1_1 c1_2 c1_3).View.Jobs.Until, .slice ag7 ng7 kg7, .bool (ackH S c1_0 c1_1 c1_2 c1_3).Busy, .int .i64 (ackH S c1_0 c1_1 c1_2 c1_3).Op.Kind, .int .i64 (ackH S c1_0 c1_1 c1_2 c1_3).Op.A, .int .i64 (ackH S c1_0 c1_1 c1_2 c1_3).Op.B, .int .i64 (ackH S c1_0 c1_1 c1_2 c1_3).Op.C, .int .i64 (ackH S c1_0 c1_1 c1_2 c1_3).Op.D, .int .i64 (ackH S c1_0 c1_1 c1_2 c1_3).Index] ∧ ∃ F, OwSched w4.heap.size wx (.agg #[.int .i64 (ackH S c1_0 c1_1 c1_2 c1_3).Id, .int .i64 (ackH S c1_0 c1_1 c1_2 c1_3).Seq, .int .i64 (ackH S c1_0 c1_1 c1_2 c1_3).View.Jobs.Index, .int .i64 (ackH S c1_0 c1_1 c1_2 c1_3).View.Jobs.Time, .int .i64 (ackH S c1_0 c1_1 c1_2 c1_3).View.Jobs.Holder, .int .i64 (ackH S c1_0 c1_1 c1_2 c1_3).View.Jobs.Epoch, .int .i64 (ackH S c1_0 c1_1 c1_2 c1_3).View.Jobs.Until, .slice ag7 ng7 kg7, .bool (ackH S c1_0 c1_1 c1_2 c1_3).Busy, .int .i64 (ackH S c1_0 c1_1 c1_2 c1_3).Op.Kind, .int .i64 (ackH S c1_0 c1_1 c1_2 c1_3).Op.A, .int .i64 (ackH S c1_0 c1_1 c1_2 c1_3).Op.B, .int .i64 (ackH S c1_0 c1_1 c1_2 c1_3).Op.C, .int .i64 (ackH S c1_0 c1_1 c1_2 c1_3).Op.D, .int .i64 (ackH S c1_0 c1_1 c1_2 c1_3).Index]) (ackH S c1_0 c1_1 c1_2 c1_3) F ∧ (∀ k, k ∈ F → k < wx.heap.size ∧ k ≠ gg))
        case first =>
          refine wp_region_held_drew (S := (fun w' => Ext w4 w')) (by kernel_rfl) (by (try dsimp only); exact extT) (fun hHeld => ?_)
          refine wpAnyH_take (i := 0) (v := ?_) rfl (by kernel_rfl) (by kernel_rfl) (by kernel_rfl) (fun _ _ _ h => h) (Or.inl ⟨by rfl, ?_⟩) (by assumption) ?_
          rotate_left
          focus (intro w hSw; (try dsimp only at hSw); have hq := (Bx.ext hSw).cell; have hq2 := (Bx.ext hSw).lt; go_simp <;> with_reducible rfl)
          (try simp only [List.getElem_toArray, List.getElem_cons_zero, List.getElem_cons_succ, Act.put, List.setIfInBounds_toArray, List.set_cons_zero, List.set_cons_succ])
          refine wpAnyH_take (i := 1) (v := ?_) rfl (by kernel_rfl) (by kernel_rfl) (by kernel_rfl) (fun _ _ _ h => h) (Or.inl ⟨by rfl, ?_⟩) (by assumption) ?_
          rotate_left
          focus (intro w hSw; (try dsimp only at hSw); have hq := (Bb.ext hSw).cell; have hq2 := (Bb.ext hSw).lt; go_simp <;> with_reducible rfl)
          (try simp only [List.getElem_toArray, List.getElem_cons_zero, List.getElem_cons_succ, Act.put, List.setIfInBounds_toArray, List.set_cons_zero, List.set_cons_succ])
          refine wpAnyH_ready (rs := [2, 4]) (by kernel_rfl) (by simp) ?_
          refine AllReadyH.cons rfl (fun Kz hKz => ?_) (AllReadyH.cons rfl (fun Kz hKz => ?_) AllReadyH.nil)
          · (try simp only [List.getElem_toArray, List.getElem_cons_zero, List.getElem_cons_succ])
            go_simp
            (go_at_call 15; refine (toAck_c _ _ _ _ _).mono ?_; rintro e wb ⟨rfl, hxwb⟩; have hzwb := hxwb.size; (try simp only [size_drew, World.size_alloc] at hzwb); have XAB : Ext w4 wb := Ext.trans (by exact extT) hxwb; have XB : Ext w4 wb := XAB; (first | (have KU := Blk.ext KU hxwb; have CU := KU.cell; have FU := KU.frozen; have LU := KU.lt) | (have KU : Blk wb w4.heap.size 41 #[.int .i64 0, .int .i64 0, .int .i64 0, .int .i64 0, .int .i64 0, .int .i64 0, .int .i64 0, .slice none 0 0, .bool false, .int .i64 0, .int .i64 0, .int .i64 0, .int .i64 0, .int .i64 0, .int .i64 0] := Blk.ext (Blk.new w4.drew _ _) hxwb; have CU := KU.cell; have FU := KU.frozen; have LU := KU.lt) | skip))
            refine hKz.out _ _ (by (try dsimp only); exact extT) (fun hHeld => ?_)
            clear hKz Kz
            (try simp only [List.getElem_toArray, List.getElem_cons_zero, List.getElem_cons_succ, Act.put, List.setIfInBounds_toArray, List.set_cons_zero, List.set_cons_succ])
            refine wpAnyH_ready (rs := [3, 4]) (by kernel_rfl) (by simp) ?_
            refine AllReadyH.cons rfl (fun Kz hKz => ?_) (AllReadyH.cons rfl (fun Kz hKz => ?_) AllReadyH.nil)
            · (try simp only [List.getElem_toArray, List.getElem_cons_zero, List.getElem_cons_succ])
              go_simp
              (go_at_call 16; refine (ackHeard_f ((gx.rd).ext (Ext.trans XAB (by exact extT))) c1_0 c1_1 c1_2 c1_3).mono ?_; rintro e wc ⟨_, rfl, hxwc, Fr, gr⟩; obtain ⟨ag7, ng7, kg7, rfl⟩ := gr.rd.shape; have hzwc := hxwc.size; (try simp only [size_drew, World.size_alloc] at hzwc); have XBC : Ext wb wc := Ext.trans (by exact extT) hxwc; have XC : Ext w4 wc := XB.trans XBC; have lr := gr.low; (try simp only [World.size_alloc, size_drew] at lr); (first | (have KU := Blk.ext KU hxwc; have CU := KU.cell; have FU := KU.frozen; have LU := KU.lt) | (have KU : Blk wc wb.heap.size 41 #[.int .i64 0, .int .i64 0, .int .i64 0, .int .i64 0, .int .i64 0, .int .i64 0, .int .i64 0, .slice none 0 0, .bool false, .int .i64 0, .int .i64 0, .int .i64 0, .int .i64 0, .int .i64 0, .int .i64 0] := Blk.ext (Blk.new wb _ _) hxwc; have CU := KU.cell; have FU := KU.frozen; have LU := KU.lt) | skip))
              refine hKz.out _ _ (by (try dsimp only); exact extT) (fun hHeld => ?_)
              clear hKz Kz
              (try simp only [List.getElem_toArray, List.getElem_cons_zero, List.getElem_cons_succ, Act.put, List.setIfInBounds_toArray, List.set_cons_zero, List.set_cons_succ])
              refine wpAnyH_ready (rs := [4]) (by kernel_rfl) (by simp) ?_
              refine AllReadyH.cons rfl (fun Kz hKz => ?_) AllReadyH.nil
              (try simp only [List.getElem_toArray, List.getElem_cons_zero, List.getElem_cons_succ])
              go_simp
              refine hKz.out _ _ (by (try dsimp only); exact extT) (fun hHeld => ?_)
              clear hKz Kz
              (try simp only [List.getElem_toArray, List.getElem_cons_zero, List.getElem_cons_succ, Act.put, List.setIfInBounds_toArray, List.set_cons_zero, List.set_cons_succ])
              refine wpAnyH_ready (rs := [5]) (by kernel_rfl) (by simp) ?_
              refine AllReadyH.cons rfl (fun Kz hKz => ?_) AllReadyH.nil
              (try simp only [List.getElem_toArray, List.getElem_cons_zero, List.getElem_cons_succ])
              first | (rw [if_pos (by rfl)]; refine wp_store_row 41 (.tmp 8) (.tmp 28) (by rfl) _ #[.int .i64 (ackH S c1_0 c1_1 c1_2 c1_3).Id, .int .i64 (ackH S c1_0 c1_1 c1_2 c1_3).Seq, .int .i64 (ackH S c1_0 c1_1 c1_2 c1_3).View.Jobs.Index, .int .i64 (ackH S c1_0 c1_1 c1_2 c1_3).View.Jobs.Time, .int .i64 (ackH S c1_0 c1_1 c1_2 c1_3).View.Jobs.Holder, .int .i64 (ackH S c1_0 c1_1 c1_2 c1_3).View.Jobs.Epoch, .int .i64 (ackH S c1_0 c1_1 c1_2 c1_3).View.Jobs.Until, .slice ag7 ng7 kg7, .bool (ackH S c1_0 c1_1 c1_2 c1_3).Busy, .int .i64 (ackH S c1_0 c1_1 c1_2 c1_3).Op.Kind, .int .i64 (ackH S c1_0 c1_1 c1_2 c1_3).Op.A, .int .i64 (ackH S c1_0 c1_1 c1_2 c1_3).Op.B, .int .i64 (ackH S c1_0 c1_1 c1_2 c1_3).Op.C, .int .i64 (ackH S c1_0 c1_1 c1_2 c1_3).Op.D, .int .i64 (ackH S c1_0 c1_1 c1_2 c1_3).Index] (by rfl) (by rfl) 41 _ KU (by kernel_rfl) rfl (by kernel_rfl) ?_) | go_simp
              refine hKz.out _ _ (by (try dsimp only); exact extT) (fun hHeld => ?_)
              clear hKz Kz
              (try simp only [List.getElem_toArray, List.getElem_cons_zero, List.getElem_cons_succ, Act.put, List.setIfInBounds_toArray, List.set_cons_zero, List.set_cons_succ])
              refine wpAnyH_done (by kernel_rfl) ?_ _
              go_wp2_with fail
              go_meet
              case rel =>
                (try simp only [World.size_alloc, size_drew])
                first
                  | (refine ⟨ag7, ng7, kg7, wc.heap.size, by with_reducible rfl, ?_⟩; exact ⟨XC.alloc _, XC.size, Blk.new _ _ _, Fr, (gr.ext ((Ext.refl _).alloc _)).mono (by first | omega | (simp only [World.size_alloc, size_drew]; omega)), fun k hk => ⟨by have := lr k hk; (try simp only [World.size_alloc]); omega, by have := lr k hk; omega⟩⟩)
                  | (refine ⟨ag7, ng7, kg7, w4.heap.size, by with_reducible rfl, ?_⟩; refine ⟨by exact extT, by omega, Blk.cast (by exact blkT) (by simp only [List.setIfInBounds_toArray, List.set_cons_zero, List.set_cons_succ]), Fr, (gr.upd (fs := [w4.heap.size]) (by first | (with_reducible exact rowU _ _ _) | exact updT) (fun k hk h => by have := lr k hk; simp at h; omega)).mono (by first | omega | (simp only [World.size_alloc, size_drew]; omega)), fun k hk => ⟨by have := lr k hk; (try simp only [size_setRow, World.size_setCell]); omega, by have := lr k hk; omega⟩⟩)
                  | (refine ⟨ag7, ng7, kg7, wb.heap.size, by with_reducible rfl, ?_⟩; refine ⟨by exact extT, by omega, Blk.cast (by exact blkT) (by simp only [List.setIfInBounds_toArray, List.set_cons_zero, List.set_cons_succ]), Fr, (gr.upd (fs := [wb.heap.size]) (by first | (with_reducible exact rowU _ _ _) | exact updT) (fun k hk h => by have := lr k hk; simp at h; omega)).mono (by first | omega | (simp only [World.size_alloc, size_drew]; omega)), fun k hk => ⟨by have := lr k hk; (try simp only [size_setRow, World.size_setCell]); omega, by have := lr k hk; omega⟩⟩)
            · (try simp only [List.getElem_toArray, List.getElem_cons_zero, List.getElem_cons_succ])
              go_simp
              refine hKz.out _ _ (by (try dsimp only); exact extT) (fun hHeld => ?_)
              clear hKz Kz
              (try simp only [List.getElem_toArray, List.getElem_cons_zero, List.getElem_cons_succ, Act.put, List.setIfInBounds_toArray, List.set_cons_zero, List.set_cons_succ])
              refine wpAnyH_ready (rs := [3]) (by kernel_rfl) (by simp) ?_
              refine AllReadyH.cons rfl (fun Kz hKz => ?_) AllReadyH.nil
              (try simp only [List.getElem_toArray, List.getElem_cons_zero, List.getElem_cons_succ])
              go_simp
              (go_at_call 16; refine (ackHeard_f ((gx.rd).ext (Ext.trans XAB (by exact extT))) c1_0 c1_1 c1_2 c1_3).mono ?_; rintro e wc ⟨_, rfl, hxwc, Fr, gr⟩; obtain ⟨ag7, ng7, kg7, rfl⟩ := gr.rd.shape; have hzwc := hxwc.size; (try simp only [size_drew, World.size_alloc] at hzwc); have XBC : Ext wb wc := Ext.trans (by exact extT) hxwc; have XC : Ext w4 wc := XB.trans XBC; have lr := gr.low; (try simp only [World.size_alloc, size_drew] at lr); (first | (have KU := Blk.ext KU hxwc; have CU := KU.cell; have FU := KU.frozen; have LU := KU.lt) | (have KU : Blk wc wb.heap.size 41 #[.int .i64 0, .int .i64 0, .int .i64 0, .int .i64 0, .int .i64 0, .int .i64 0, .int .i64 0, .slice none 0 0, .bool false, .int .i64 0, .int .i64 0, .int .i64 0, .int .i64 0, .int .i64 0, .int .i64 0] := Blk.ext (Blk.new wb _ _) hxwc; have CU := KU.cell; have FU := KU.frozen; have LU := KU.lt) | skip))
              refine hKz.out _ _ (by (try dsimp only); exact extT) (fun hHeld => ?_)
              clear hKz Kz
              (try simp only [List.getElem_toArray, List.getElem_cons_zero, List.getElem_cons_succ, Act.put, List.setIfInBounds_toArray, List.set_cons_zero, List.set_cons_succ])
              refine wpAnyH_ready (rs := [5]) (by kernel_rfl) (by simp) ?_
              refine AllReadyH.cons rfl (fun Kz hKz => ?_) AllReadyH.nil
              (try simp only [List.getElem_toArray, List.getElem_cons_zero, List.getElem_cons_succ])
              first | (rw [if_pos (by rfl)]; refine wp_store_row 41 (.tmp 8) (.tmp 28) (by rfl) _ #[.int .i64 (ackH S c1_0 c1_1 c1_2 c1_3).Id, .int .i64 (ackH S c1_0 c1_1 c1_2 c1_3).Seq, .int .i64 (ackH S c1_0 c1_1 c1_2 c1_3).View.Jobs.Index, .int .i64 (ackH S c1_0 c1_1 c1_2 c1_3).View.Jobs.Time, .int .i64 (ackH S c1_0 c1_1 c1_2 c1_3).View.Jobs.Holder, .int .i64 (ackH S c1_0 c1_1 c1_2 c1_3).View.Jobs.Epoch, .int .i64 (ackH S c1_0 c1_1 c1_2 c1_3).View.Jobs.Until, .slice ag7 ng7 kg7, .bool (ackH S c1_0 c1_1 c1_2 c1_3).Busy, .int .i64 (ackH S c1_0 c1_1 c1_2 c1_3).Op.Kind, .int .i64 (ackH S c1_0 c1_1 c1_2 c1_3).Op.A, .int .i64 (ackH S c1_0 c1_1 c1_2 c1_3).Op.B, .int .i64 (ackH S c1_0 c1_1 c1_2 c1_3).Op.C, .int .i64 (ackH S c1_0 c1_1 c1_2 c1_3).Op.D, .int .i64 (ackH S c1_0 c1_1 c1_2 c1_3).Index] (by rfl) (by rfl) 41 _ KU (by kernel_rfl) rfl (by kernel_rfl) ?_) | go_simp
              refine hKz.out _ _ (by (try dsimp only); exact extT) (fun hHeld => ?_)
              clear hKz Kz
              (try simp only [List.getElem_toArray, List.getElem_cons_zero, List.getElem_cons_succ, Act.put, List.setIfInBounds_toArray, List.set_cons_zero, List.set_cons_succ])
              refine wpAnyH_done (by kernel_rfl) ?_ _
              go_wp2_with fail
              go_meet
              case rel =>
                (try simp only [World.size_alloc, size_drew])
                first
                  | (refine ⟨ag7, ng7, kg7, wc.heap.size, by with_reducible rfl, ?_⟩; exact ⟨XC.alloc _, XC.size, Blk.new _ _ _, Fr, (gr.ext ((Ext.refl _).alloc _)).mono (by first | omega | (simp only [World.size_alloc, size_drew]; omega)), fun k hk => ⟨by have := lr k hk; (try simp only [World.size_alloc]); omega, by have := lr k hk; omega⟩⟩)
                  | (refine ⟨ag7, ng7, kg7, w4.heap.size, by with_reducible rfl, ?_⟩; refine ⟨by exact extT, by omega, Blk.cast (by exact blkT) (by simp only [List.setIfInBounds_toArray, List.set_cons_zero, List.set_cons_succ]), Fr, (gr.upd (fs := [w4.heap.size]) (by first | (with_reducible exact rowU _ _ _) | exact updT) (fun k hk h => by have := lr k hk; simp at h; omega)).mono (by first | omega | (simp only [World.size_alloc, size_drew]; omega)), fun k hk => ⟨by have := lr k hk; (try simp only [size_setRow, World.size_setCell]); omega, by have := lr k hk; omega⟩⟩)
                  | (refine ⟨ag7, ng7, kg7, wb.heap.size, by with_reducible rfl, ?_⟩; refine ⟨by exact extT, by omega, Blk.cast (by exact blkT) (by simp only [List.setIfInBounds_toArray, List.set_cons_zero, List.set_cons_succ]), Fr, (gr.upd (fs := [wb.heap.size]) (by first | (with_reducible exact rowU _ _ _) | exact updT) (fun k hk h => by have := lr k hk; simp at h; omega)).mono (by first | omega | (simp only [World.size_alloc, size_drew]; omega)), fun k hk => ⟨by have := lr k hk; (try simp only [size_setRow, World.size_setCell]); omega, by have := lr k hk; omega⟩⟩)
          · (try simp only [List.getElem_toArray, List.getElem_cons_zero, List.getElem_cons_succ])
            go_simp
            refine hKz.out _ _ (by (try dsimp only); exact extT) (fun hHeld => ?_)
            clear hKz Kz
            (try simp only [List.getElem_toArray, List.getElem_cons_zero, List.getElem_cons_succ, Act.put, List.setIfInBounds_toArray, List.set_cons_zero, List.set_cons_succ])
            refine wpAnyH_ready (rs := [2]) (by kernel_rfl) (by simp) ?_
            refine AllReadyH.cons rfl (fun Kz hKz => ?_) AllReadyH.nil
            (try simp only [List.getElem_toArray, List.getElem_cons_zero, List.getElem_cons_succ])
            go_simp
            (go_at_call 15; refine (toAck_c _ _ _ _ _).mono ?_; rintro e wb ⟨rfl, hxwb⟩; have hzwb := hxwb.size; (try simp only [size_drew, World.size_alloc] at hzwb); have XAB : Ext w4 wb := Ext.trans (by exact extT) hxwb; have XB : Ext w4 wb := XAB; (first | (have KU := Blk.ext KU hxwb; have CU := KU.cell; have FU := KU.frozen; have LU := KU.lt) | (have KU : Blk wb w4.heap.size 41 #[.int .i64 0, .int .i64 0, .int .i64 0, .int .i64 0, .int .i64 0, .int .i64 0, .int .i64 0, .slice none 0 0, .bool false, .int .i64 0, .int .i64 0, .int .i64 0, .int .i64 0, .int .i64 0, .int .i64 0] := Blk.ext (Blk.new w4.drew _ _) hxwb; have CU := KU.cell; have FU := KU.frozen; have LU := KU.lt) | skip))
            refine hKz.out _ _ (by (try dsimp only); exact extT) (fun hHeld => ?_)
            clear hKz Kz
            (try simp only [List.getElem_toArray, List.getElem_cons_zero, List.getElem_cons_succ, Act.put, List.setIfInBounds_toArray, List.set_cons_zero, List.set_cons_succ])
            refine wpAnyH_ready (rs := [3]) (by kernel_rfl) (by simp) ?_
            refine AllReadyH.cons rfl (fun Kz hKz => ?_) AllReadyH.nil
            (try simp only [List.getElem_toArray, List.getElem_cons_zero, List.getElem_cons_succ])
            go_simp
            (go_at_call 16; refine (ackHeard_f ((gx.rd).ext (Ext.trans XAB (by exact extT))) c1_0 c1_1 c1_2 c1_3).mono ?_; rintro e wc ⟨_, rfl, hxwc, Fr, gr⟩; obtain ⟨ag7, ng7, kg7, rfl⟩ := gr.rd.shape; have hzwc := hxwc.size; (try simp only [size_drew, World.size_alloc] at hzwc); have XBC : Ext wb wc := Ext.trans (by exact extT) hxwc; have XC : Ext w4 wc := XB.trans XBC; have lr := gr.low; (try simp only [World.size_alloc, size_drew] at lr); (first | (have KU := Blk.ext KU hxwc; have CU := KU.cell; have FU := KU.frozen; have LU := KU.lt) | (have KU : Blk wc wb.heap.size 41 #[.int .i64 0, .int .i64 0, .int .i64 0, .int .i64 0, .int .i64 0, .int .i64 0, .int .i64 0, .slice none 0 0, .bool false, .int .i64 0, .int .i64 0, .int .i64 0, .int .i64 0, .int .i64 0, .int .i64 0] := Blk.ext (Blk.new wb _ _) hxwc; have CU := KU.cell; have FU := KU.frozen; have LU := KU.lt) | skip))
            refine hKz.out _ _ (by (try dsimp only); exact extT) (fun hHeld => ?_)
            clear hKz Kz
            (try simp only [List.getElem_toArray, List.getElem_cons_zero, List.getElem_cons_succ, Act.put, List.setIfInBounds_toArray, List.set_cons_zero, List.set_cons_succ])
            refine wpAnyH_ready (rs := [5]) (by kernel_rfl) (by simp) ?_
            refine AllReadyH.cons rfl (fun Kz hKz => ?_) AllReadyH.nil
            (try simp only [List.getElem_toArray, List.getElem_cons_zero, List.getElem_cons_succ])
            first | (rw [if_pos (by rfl)]; refine wp_store_row 41 (.tmp 8) (.tmp 28) (by rfl) _ #[.int .i64 (ackH S c1_0 c1_1 c1_2 c1_3).Id, .int .i64 (ackH S c1_0 c1_1 c1_2 c1_3).Seq, .int .i64 (ackH S c1_0 c1_1 c1_2 c1_3).View.Jobs.Index, .int .i64 (ackH S c1_0 c1_1 c1_2 c1_3).View.Jobs.Time, .int .i64 (ackH S c1_0 c1_1 c1_2 c1_3).View.Jobs.Holder, .int .i64 (ackH S c1_0 c1_1 c1_2 c1_3).View.Jobs.Epoch, .int .i64 (ackH S c1_0 c1_1 c1_2 c1_3).View.Jobs.Until, .slice ag7 ng7 kg7, .bool (ackH S c1_0 c1_1 c1_2 c1_3).Busy, .int .i64 (ackH S c1_0 c1_1 c1_2 c1_3).Op.Kind, .int .i64 (ackH S c1_0 c1_1 c1_2 c1_3).Op.A, .int .i64 (ackH S c1_0 c1_1 c1_2 c1_3).Op.B, .int .i64 (ackH S c1_0 c1_1 c1_2 c1_3).Op.C, .int .i64 (ackH S c1_0 c1_1 c1_2 c1_3).Op.D, .int .i64 (ackH S c1_0 c1_1 c1_2 c1_3).Index] (by rfl) (by rfl) 41 _ KU (by kernel_rfl) rfl (by kernel_rfl) ?_) | go_simp
            refine hKz.out _ _ (by (try dsimp only); exact extT) (fun hHeld => ?_)
            clear hKz Kz
            (try simp only [List.getElem_toArray, List.getElem_cons_zero, List.getElem_cons_succ, Act.put, List.setIfInBounds_toArray, List.set_cons_zero, List.set_cons_succ])
            refine wpAnyH_done (by kernel_rfl) ?_ _
            go_wp2_with fail
            go_meet
            case rel =>
              (try simp only [World.size_alloc, size_drew])
              first
                | (refine ⟨ag7, ng7, kg7, wc.heap.size, by with_reducible rfl, ?_⟩; exact ⟨XC.alloc _, XC.size, Blk.new _ _ _, Fr, (gr.ext ((Ext.refl _).alloc _)).mono (by first | omega | (simp only [World.size_alloc, size_drew]; omega)), fun k hk => ⟨by have := lr k hk; (try simp only [World.size_alloc]); omega, by have := lr k hk; omega⟩⟩)
                | (refine ⟨ag7, ng7, kg7, w4.heap.size, by with_reducible rfl, ?_⟩; refine ⟨by exact extT, by omega, Blk.cast (by exact blkT) (by simp only [List.setIfInBounds_toArray, List.set_cons_zero, List.set_cons_succ]), Fr, (gr.upd (fs := [w4.heap.size]) (by first | (with_reducible exact rowU _ _ _) | exact updT) (fun k hk h => by have := lr k hk; simp at h; omega)).mono (by first | omega | (simp only [World.size_alloc, size_drew]; omega)), fun k hk => ⟨by have := lr k hk; (try simp only [size_setRow, World.size_setCell]); omega, by have := lr k hk; omega⟩⟩)
                | (refine ⟨ag7, ng7, kg7, wb.heap.size, by with_reducible rfl, ?_⟩; refine ⟨by exact extT, by omega, Blk.cast (by exact blkT) (by simp only [List.setIfInBounds_toArray, List.set_cons_zero, List.set_cons_succ]), Fr, (gr.upd (fs := [wb.heap.size]) (by first | (with_reducible exact rowU _ _ _) | exact updT) (fun k hk h => by have := lr k hk; simp at h; omega)).mono (by first | omega | (simp only [World.size_alloc, size_drew]; omega)), fun k hk => ⟨by have := lr k hk; (try simp only [size_setRow, World.size_setCell]); omega, by have := lr k hk; omega⟩⟩)
        case rest =>
          revert wc; intro w5 hcut
          obtain ⟨ag7, ng7, kg7, bg, rfl, X5, hgeg, Bg, Fg, gg, hlog⟩ := hcut
          have lg : ∀ k, k ∈ Fg → w4.heap.size ≤ k ∧ k < w5.heap.size := fun k hk => ⟨(gg.low k hk).1, (hlog k hk).1⟩
          have hb2g : ∀ k, k ∈ Fg → k ≠ bg := fun k hk => (hlog k hk).2
          clear hlog
          have MBg := Bg.lt
          have Z5 := X5.size; have E5 : Ext w w5 := E4.trans X5
          replace Ba := Ba.ext X5
          replace Bb := Bb.ext X5
          replace Bw := Bw.ext X5
          replace gw := gw.ext X5
          replace gx := gx.ext X5
          replace Bx := Bx.ext X5
          have CBa := Ba.cell; have LBa := Ba.lt
          have CBb := Bb.cell; have LBb := Bb.lt
          have CBw := Bw.cell; have LBw := Bw.lt
          have CBx := Bx.cell; have LBx := Bx.lt
          have CBg := Bg.cell; have LBg := Bg.lt
          as_aux_lemma =>
            go_wp2_with fail
            refine (eq_Sched ((gg.rd).ext (by repeat' (first | (with_reducible exact Ext.refl _) | (with_reducible assumption) | (with_reducible refine Ext.drewN ?_ _) | (with_reducible refine Ext.drew ?_) | (with_reducible refine Ext.alloc ?_ _) | (with_reducible refine Ext.setCell ?_ ?_ _) | (with_reducible refine Ext.setRow ?_ ?_ _) | (with_reducible exact Nat.le_refl _) | (with_reducible refine Ext.trans ?_ (by assumption)) | omega))) ((gw.rd).ext (by repeat' (first | (with_reducible exact Ext.refl _) | (with_reducible assumption) | (with_reducible refine Ext.drewN ?_ _) | (with_reducible refine Ext.drew ?_) | (with_reducible refine Ext.alloc ?_ _) | (with_reducible refine Ext.setCell ?_ ?_ _) | (with_reducible refine Ext.setRow ?_ ?_ _) | (with_reducible exact Nat.le_refl _) | (with_reducible refine Ext.trans ?_ (by assumption)) | omega)))).mono ?_
            rintro e w6 ⟨rfl, hx6⟩
            have X6 : Ext w5 w6 := by repeat' (first | (with_reducible exact Ext.refl _) | (with_reducible assumption) | (with_reducible refine Ext.drewN ?_ _) | (with_reducible refine Ext.drew ?_) | (with_reducible refine Ext.alloc ?_ _) | (with_reducible refine Ext.setCell ?_ ?_ _) | (with_reducible refine Ext.setRow ?_ ?_ _) | (with_reducible exact Nat.le_refl _) | (with_reducible refine Ext.trans ?_ (by assumption)) | omega)
            have Z6 := X6.size
            have E6 : Ext w w6 := E5.trans X6
            replace Ba := Ba.ext X6
            replace Bb := Bb.ext X6
            replace Bw := Bw.ext X6
            replace gw := gw.ext X6
            replace gx := gx.ext X6
            replace Bx := Bx.ext X6
            replace Bg := Bg.ext X6
            replace gg := gg.ext X6
            clear hx6
            clear CBa LBa CBb LBb CBw LBw CBx LBx CBg LBg
            have CBa := Ba.cell; have LBa := Ba.lt
            have CBb := Bb.cell; have LBb := Bb.lt
            have CBw := Bw.cell; have LBw := Bw.lt
            have CBx := Bx.cell; have LBx := Bx.lt
            have CBg := Bg.cell; have LBg := Bg.lt
            go_wp2_with fail
            have ya0 : ∀ w', Ext w6 w' → w'.cell? ⟨_, 0, none⟩ = some (.int .i64 c0_0) := fun w' hw => (Ba.ext hw).cell 0
            have ya1 : ∀ w', Ext w6 w' → w'.cell? ⟨_, 1, none⟩ = some (.int .i64 c0_1) := fun w' hw => (Ba.ext hw).cell 1
            have ya2 : ∀ w', Ext w6 w' → w'.cell? ⟨_, 2, none⟩ = some (.int .i64 c0_2) := fun w' hw => (Ba.ext hw).cell 2
            have ya3 : ∀ w', Ext w6 w' → w'.cell? ⟨_, 3, none⟩ = some (.int .i64 c0_3) := fun w' hw => (Ba.ext hw).cell 3
            have ya4 : ∀ w', Ext w6 w' → w'.cell? ⟨_, 4, none⟩ = some (.int .i64 c0_4) := fun w' hw => (Ba.ext hw).cell 4
            have ya5 : ∀ w', Ext w6 w' → w'.cell? ⟨_, 5, none⟩ = some (.int .i64 c0_5) := fun w' hw => (Ba.ext hw).cell 5
            have ya6 : ∀ w', Ext w6 w' → w'.cell? ⟨_, 6, none⟩ = some (.int .i64 c0_6) := fun w' hw => (Ba.ext hw).cell 6
            have ya7 : ∀ w', Ext w6 w' → w'.cell? ⟨_, 7, none⟩ = some (.slice a0_7 n0_7 k0_7) := fun w' hw => (Ba.ext hw).cell 7
            have ya8 : ∀ w', Ext w6 w' → w'.cell? ⟨_, 8, none⟩ = some (.bool c0_8) := fun w' hw => (Ba.ext hw).cell 8
            have ya9 : ∀ w', Ext w6 w' → w'.cell? ⟨_, 9, none⟩ = some (.int .i64 c0_9) := fun w' hw => (Ba.ext hw).cell 9
            have ya10 : ∀ w', Ext w6 w' → w'.cell? ⟨_, 10, none⟩ = some (.int .i64 c0_10) := fun w' hw => (Ba.ext hw).cell 10
            have ya11 : ∀ w', Ext w6 w' → w'.cell? ⟨_, 11, none⟩ = some (.int .i64 c0_11) := fun w' hw => (Ba.ext hw).cell 11
            have ya12 : ∀ w', Ext w6 w' → w'.cell? ⟨_, 12, none⟩ = some (.int .i64 c0_12) := fun w' hw => (Ba.ext hw).cell 12
            have ya13 : ∀ w', Ext w6 w' → w'.cell? ⟨_, 13, none⟩ = some (.int .i64 c0_13) := fun w' hw => (Ba.ext hw).cell 13
            have ya14 : ∀ w', Ext w6 w' → w'.cell? ⟨_, 14, none⟩ = some (.int .i64 c0_14) := fun w' hw => (Ba.ext hw).cell 14
            have yb0 : ∀ w', Ext w6 w' → w'.cell? ⟨_, 0, none⟩ = some (.int .i64 S.Id) := fun w' hw => (Bx.ext hw).cell 0
            have yb1 : ∀ w', Ext w6 w' → w'.cell? ⟨_, 1, none⟩ = some (.int .i64 S.Seq) := fun w' hw => (Bx.ext hw).cell 1
            have yb2 : ∀ w', Ext w6 w' → w'.cell? ⟨_, 2, none⟩ = some (.int .i64 S.View.Jobs.Index) := fun w' hw => (Bx.ext hw).cell 2
            have yb3 : ∀ w', Ext w6 w' → w'.cell? ⟨_, 3, none⟩ = some (.int .i64 S.View.Jobs.Time) := fun w' hw => (Bx.ext hw).cell 3
            have yb4 : ∀ w', Ext w6 w' → w'.cell? ⟨_, 4, none⟩ = some (.int .i64 S.View.Jobs.Holder) := fun w' hw => (Bx.ext hw).cell 4
            have yb5 : ∀ w', Ext w6 w' → w'.cell? ⟨_, 5, none⟩ = some (.int .i64 S.View.Jobs.Epoch) := fun w' hw => (Bx.ext hw).cell 5
            have yb6 : ∀ w', Ext w6 w' → w'.cell? ⟨_, 6, none⟩ = some (.int .i64 S.View.Jobs.Until) := fun w' hw => (Bx.ext hw).cell 6
            have yb7 : ∀ w', Ext w6 w' → w'.cell? ⟨_, 7, none⟩ = some (.slice ax7 nx7 kx7) := fun w' hw => (Bx.ext hw).cell 7
            have yb8 : ∀ w', Ext w6 w' → w'.cell? ⟨_, 8, none⟩ = some (.bool S.Busy) := fun w' hw => (Bx.ext hw).cell 8
            have yb9 : ∀ w', Ext w6 w' → w'.cell? ⟨_, 9, none⟩ = some (.int .i64 S.Op.Kind) := fun w' hw => (Bx.ext hw).cell 9
            have yb10 : ∀ w', Ext w6 w' → w'.cell? ⟨_, 10, none⟩ = some (.int .i64 S.Op.A) := fun w' hw => (Bx.ext hw).cell 10
            have yb11 : ∀ w', Ext w6 w' → w'.cell? ⟨_, 11, none⟩ = some (.int .i64 S.Op.B) := fun w' hw => (Bx.ext hw).cell 11
            have yb12 : ∀ w', Ext w6 w' → w'.cell? ⟨_, 12, none⟩ = some (.int .i64 S.Op.C) := fun w' hw => (Bx.ext hw).cell 12
            have yb13 : ∀ w', Ext w6 w' → w'.cell? ⟨_, 13, none⟩ = some (.int .i64 S.Op.D) := fun w' hw => (Bx.ext hw).cell 13
            have yb14 : ∀ w', Ext w6 w' → w'.cell? ⟨_, 14, none⟩ = some (.int .i64 S.Index) := fun w' hw => (Bx.ext hw).cell 14
            clear CBa LBa CBb LBb CBw LBw CBx LBx CBg LBg
            go_region_held3 (fun w' => Ext w6 w') (first | exact Ext.drew (Ext.refl _) | exact Ext.trans (by assumption) hx7 | exact Ext.trans (by assumption) hx8) (first | (go_at_call 7; refine (to_Sched (h0.ext (Ext.trans E6 (by assumption))) q0_0).mono ?_; rintro e w7 ⟨_, rfl, hx7, Fz, gz⟩; obtain ⟨az7, nz7, kz7, rfl⟩ := gz.rd.shape) | (go_at_call 10; refine (eq_Sched ((gx.rd).ext (by assumption)) gz.rd).mono ?_; rintro e w8 ⟨rfl, hx8⟩))
            have X8 : Ext w6 w8 := by assumption
            clear ya0 yb0 ya1 yb1 ya2 yb2 ya3 yb3 ya4 yb4 ya5 yb5 ya6 yb6 ya7 yb7 ya8 yb8 ya9 yb9 ya10 yb10 ya11 yb11 ya12 yb12 ya13 yb13 ya14 yb14 hx8
            have Z8 := X8.size; have E8 : Ext w w8 := E6.trans X8
            replace Ba := Ba.ext X8
            replace Bb := Bb.ext X8
            replace Bw := Bw.ext X8
            replace gw := gw.ext X8
            replace gx := gx.ext X8
            replace Bx := Bx.ext X8
            replace Bg := Bg.ext X8
            replace gg := gg.ext X8
            have CBa := Ba.cell; have LBa := Ba.lt
            have CBb := Bb.cell; have LBb := Bb.lt
            have CBw := Bw.cell; have LBw := Bw.lt
            have CBx := Bx.cell; have LBx := Bx.lt
            have CBg := Bg.cell; have LBg := Bg.lt
            as_aux_lemma =>
              go_wp2_with fail
              refine (mark_Sched (gx.ext (by repeat' (first | (with_reducible exact Ext.refl _) | (with_reducible assumption) | (with_reducible refine Ext.drewN ?_ _) | (with_reducible refine Ext.drew ?_) | (with_reducible refine Ext.alloc ?_ _) | (with_reducible refine Ext.setCell ?_ ?_ _) | (with_reducible refine Ext.setRow ?_ ?_ _) | (with_reducible exact Nat.le_refl _) | (with_reducible refine Ext.trans ?_ (by assumption)) | omega))) (by omega) (by have := nx; omega)).mono ?_
              rintro e w9 ⟨rfl, hx9, gxm⟩
              have X9 : Upd w8 w9 Fx := (Ext.upd (by repeat' (first | (with_reducible exact Ext.refl _) | (with_reducible assumption) | (with_reducible refine Ext.drewN ?_ _) | (with_reducible refine Ext.drew ?_) | (with_reducible refine Ext.alloc ?_ _) | (with_reducible refine Ext.setCell ?_ ?_ _) | (with_reducible refine Ext.setRow ?_ ?_ _) | (with_reducible exact Nat.le_refl _) | (with_reducible refine Ext.trans ?_ (by assumption)) | omega)) _).trans hx9
              have Z9 := X9.size
              have E9 : Ext w w9 := E8.upd_below X9 (fun k hk => by have := lx k hk; omega)
              replace Ba := Ba.upd X9 (fun hk => by have := lx _ hk; omega)
              replace Bb := Bb.upd X9 (fun hk => by have := lx _ hk; omega)
              replace Bw := Bw.upd X9 (fun hk => by have := lx _ hk; omega)
              replace gw := gw.upd X9 (fun k hk hk' => by have := lx k hk'; have := lw k hk; omega)
              replace Bx := Bx.upd X9 (fun hk => by have := lx _ hk; omega)
              replace Bg := Bg.upd X9 (fun hk => by have := lx _ hk; omega)
              replace gg := gg.upd X9 (fun k hk hk' => by have := lx k hk'; have := lg k hk; omega)
              obtain ⟨K, hK⟩ : ∃ z : Int, z = 1 + ((numSched (S) : Nat) : Int) := ⟨_, rfl⟩
              rw [← hK]
              have pK : 0 ≤ K := by omega
              have rK : K ≤ 1000000000 := by have := nx; omega
              have HK := Lib.hid hK
              clear hK
              have dK : decide (K < 0) = false := by simp; omega
              clear hx9
              clear CBa LBa CBb LBb CBw LBw CBx LBx CBg LBg
              have CBa := Ba.cell; have LBa := Ba.lt
              have CBb := Bb.cell; have LBb := Bb.lt
              have CBw := Bw.cell; have LBw := Bw.lt
              have CBx := Bx.cell; have LBx := Bx.lt
              have CBg := Bg.cell; have LBg := Bg.lt
              go_wp2_with fail
              refine (eq_Sched ((gg.rd).ext (by repeat' (first | (with_reducible exact Ext.refl _) | (with_reducible assumption) | (with_reducible refine Ext.drewN ?_ _) | (with_reducible refine Ext.drew ?_) | (with_reducible refine Ext.alloc ?_ _) | (with_reducible refine Ext.setCell ?_ ?_ _) | (with_reducible refine Ext.setRow ?_ ?_ _) | (with_reducible exact Nat.le_refl _) | (with_reducible refine Ext.trans ?_ (by assumption)) | omega))) ((gw.rd).ext (by repeat' (first | (with_reducible exact Ext.refl _) | (with_reducible assumption) | (with_reducible refine Ext.drewN ?_ _) | (with_reducible refine Ext.drew ?_) | (with_reducible refine Ext.alloc ?_ _) | (with_reducible refine Ext.setCell ?_ ?_ _) | (with_reducible refine Ext.setRow ?_ ?_ _) | (with_reducible exact Nat.le_refl _) | (with_reducible refine Ext.trans ?_ (by assumption)) | omega)))).mono ?_
              rintro e w10 ⟨rfl, hx10⟩
              have X10 : Ext w9 w10 := by repeat' (first | (with_reducible exact Ext.refl _) | (with_reducible assumption) | (with_reducible refine Ext.drewN ?_ _) | (with_reducible refine Ext.drew ?_) | (with_reducible refine Ext.alloc ?_ _) | (with_reducible refine Ext.setCell ?_ ?_ _) | (with_reducible refine Ext.setRow ?_ ?_ _) | (with_reducible exact Nat.le_refl _) | (with_reducible refine Ext.trans ?_ (by assumption)) | omega)
              have Z10 := X10.size
              have E10 : Ext w w10 := E9.trans X10
              replace Ba := Ba.ext X10
              replace Bb := Bb.ext X10
              replace Bw := Bw.ext X10
              replace gw := gw.ext X10
              replace Bx := Bx.ext X10
              replace Bg := Bg.ext X10
              replace gg := gg.ext X10
              clear hx10
              clear CBa LBa CBb LBb CBw LBw CBx LBx CBg LBg
              have CBa := Ba.cell; have LBa := Ba.lt
              have CBb := Bb.cell; have LBb := Bb.lt
              have CBw := Bw.cell; have LBw := Bw.lt
              have CBx := Bx.cell; have LBx := Bx.lt
              have CBg := Bg.cell; have LBg := Bg.lt
              go_wp2_with fail
              refine (mark_Sched (gg.ext (by repeat' (first | (with_reducible exact Ext.refl _) | (with_reducible assumption) | (with_reducible refine Ext.drewN ?_ _) | (with_reducible refine Ext.drew ?_) | (with_reducible refine Ext.alloc ?_ _) | (with_reducible refine Ext.setCell ?_ ?_ _) | (with_reducible refine Ext.setRow ?_ ?_ _) | (with_reducible exact Nat.le_refl _) | (with_reducible refine Ext.trans ?_ (by assumption)) | omega))) (by omega) (by have := nb; omega)).mono ?_
              rintro e w11 ⟨rfl, hx11, gm⟩
              have X11 : Upd w10 w11 Fg := (Ext.upd (by repeat' (first | (with_reducible exact Ext.refl _) | (with_reducible assumption) | (with_reducible refine Ext.drewN ?_ _) | (with_reducible refine Ext.drew ?_) | (with_reducible refine Ext.alloc ?_ _) | (with_reducible refine Ext.setCell ?_ ?_ _) | (with_reducible refine Ext.setRow ?_ ?_ _) | (with_reducible exact Nat.le_refl _) | (with_reducible refine Ext.trans ?_ (by assumption)) | omega)) _).trans hx11
              have Z11 := X11.size
              have E11 : Ext w w11 := E10.upd_below X11 (fun k hk => by have := lg k hk; omega)
              replace Ba := Ba.upd X11 (fun hk => by have := lg _ hk; omega)
              replace Bb := Bb.upd X11 (fun hk => by have := lg _ hk; omega)
              replace Bw := Bw.upd X11 (fun hk => by have := lg _ hk; omega)
              replace gw := gw.upd X11 (fun k hk hk' => by have := lg k hk'; have := lw k hk; omega)
              replace Bx := Bx.upd X11 (fun hk => by have := lg _ hk; omega)
              replace Bg := Bg.upd X11 (fun hk => hb2g _ hk rfl)
              obtain ⟨N, hN⟩ : ∃ z : Int, z = 1 + ((numSched (ackH S c1_0 c1_1 c1_2 c1_3) : Nat) : Int) := ⟨_, rfl⟩
              rw [← hN]
              have pN : 0 ≤ N := by omega
              have rN : N ≤ 1000000000 := by have := nb; omega
              have HN := Lib.hid hN
              clear hN
              have dN : decide (N < 0) = false := by simp; omega
              clear hx11
              clear CBa LBa CBb LBb CBw LBw CBx LBx CBg LBg
              have CBa := Ba.cell; have LBa := Ba.lt
              have CBb := Bb.cell; have LBb := Bb.lt
              have CBw := Bw.cell; have LBw := Bw.lt
              have CBx := Bx.cell; have LBx := Bx.lt
              have CBg := Bg.cell; have LBg := Bg.lt
              go_wp2_with fail
              refine (held_Sched (gm.ext (by repeat' (first | (with_reducible exact Ext.refl _) | (with_reducible assumption) | (with_reducible refine Ext.drewN ?_ _) | (with_reducible refine Ext.drew ?_) | (with_reducible refine Ext.alloc ?_ _) | (with_reducible refine Ext.setCell ?_ ?_ _) | (with_reducible refine Ext.setRow ?_ ?_ _) | (with_reducible exact Nat.le_refl _) | (with_reducible refine Ext.trans ?_ (by assumption)) | omega))) (by omega) (by have := nb; omega)).mono ?_
              rintro e w12 ⟨rfl, hx12⟩
              rw [← HN.out]
              have X12 : Ext w11 w12 := by repeat' (first | (with_reducible exact Ext.refl _) | (with_reducible assumption) | (with_reducible refine Ext.drewN ?_ _) | (with_reducible refine Ext.drew ?_) | (with_reducible refine Ext.alloc ?_ _) | (with_reducible refine Ext.setCell ?_ ?_ _) | (with_reducible refine Ext.setRow ?_ ?_ _) | (with_reducible exact Nat.le_refl _) | (with_reducible refine Ext.trans ?_ (by assumption)) | omega)
              have Z12 := X12.size
              have E12 : Ext w w12 := E11.trans X12
              replace Ba := Ba.ext X12
              replace Bb := Bb.ext X12
              replace Bw := Bw.ext X12
              replace gw := gw.ext X12
              replace Bx := Bx.ext X12
              replace Bg := Bg.ext X12
              replace gm := gm.ext X12
              clear hx12
              clear CBa LBa CBb LBb CBw LBw CBx LBx CBg LBg
              have CBa := Ba.cell; have LBa := Ba.lt
              have CBb := Bb.cell; have LBb := Bb.lt
              have CBw := Bw.cell; have LBw := Bw.lt
              have CBx := Bx.cell; have LBx := Bx.lt
              have CBg := Bg.cell; have LBg := Bg.lt
              as_aux_lemma =>
                go_wp2_with fail
                clear CBa LBa CBb LBb CBw LBw CBx LBx CBg LBg
                go_cut [12] (fun sx wx => ∃ ah7 nh7 kh7, ∃ gg : Nat, sx = .pointer (some ⟨gg, 0, none⟩) ∧ Ext w12 wx ∧ w12.heap.size ≤ gg ∧ Blk wx gg 41 #[.int .i64 (ackH S c1_0 c1_1 c1_2 c1_3).Id, .int .i64 (ackH S c1_0 c1_1 c1_2 c1_3).Seq, .int .i64 (ackH S c1_0 c1_1 c1_2 c1_3).View.Jobs.Index, .int .i64 (ackH S c1_0 c1_1 c1_2 c1_3).View.Jobs.Time, .int .i64 (ackH S c1_0 c1_1 c1_2 c1_3).View.Jobs.Holder, .int .i64 (ackH S c1_0 c1_1 c1_2 c1_3).View.Jobs.Epoch, .int .i64 (ackH S c1_0 c1_1 c1_2 c1_3).View.Jobs.Until, .slice ah7 nh7 kh7, .bool (ackH S c1_0 c1_1 c1_2 c1_3).Busy, .int .i64 (ackH S c1_0 c1_1 c1_2 c1_3).Op.Kind, .int .i64 (ackH S c1_0 c1_1 c1_2 c1_3).Op.A, .int .i64 (ackH S c1_0 c1_1 c1_2 c1_3).Op.B, .int .i64 (ackH S c1_0 c1_1 c1_2 c1_3).Op.C, .int .i64 (ackH S c1_0 c1_1 c1_2 c1_3).Op.D, .int .i64 (ackH S c1_0 c1_1 c1_2 c1_3).Index] ∧ ∃ F, OwSched w12.heap.size wx (.agg #[.int .i64 (ackH S c1_0 c1_1 c1_2 c1_3).Id, .int .i64 (ackH S c1_0 c1_1 c1_2 c1_3).Seq, .int .i64 (ackH S c1_0 c1_1 c1_2 c1_3).View.Jobs.Index, .int .i64 (ackH S c1_0 c1_1 c1_2 c1_3).View.Jobs.Time, .int .i64 (ackH S c1_0 c1_1 c1_2 c1_3).View.Jobs.Holder, .int .i64 (ackH S c1_0 c1_1 c1_2 c1_3).View.Jobs.Epoch, .int .i64 (ackH S c1_0 c1_1 c1_2 c1_3).View.Jobs.Until, .slice ah7 nh7 kh7, .bool (ackH S c1_0 c1_1 c1_2 c1_3).Busy, .int .i64 (ackH S c1_0 c1_1 c1_2 c1_3).Op.Kind, .int .i64 (ackH S c1_0 c1_1 c1_2 c1_3).Op.A, .int .i64 (ackH S c1_0 c1_1 c1_2 c1_3).Op.B, .int .i64 (ackH S c1_0 c1_1 c1_2 c1_3).Op.C, .int .i64 (ackH S c1_0 c1_1 c1_2 c1_3).Op.D, .int .i64 (ackH S c1_0 c1_1 c1_2 c1_3).Index]) (ackH S c1_0 c1_1 c1_2 c1_3) F ∧ (∀ k, k ∈ F → k < wx.heap.size ∧ k ≠ gg))
                case first =>
                  refine wp_region_held_drew (S := (fun w' => Ext w12 w')) (by kernel_rfl) (by (try dsimp only); exact extT) (fun hHeld => ?_)
                  refine wpAnyH_take (i := 0) (v := ?_) rfl (by kernel_rfl) (by kernel_rfl) (by kernel_rfl) (fun _ _ _ h => h) (Or.inl ⟨by rfl, ?_⟩) (by assumption) ?_
                  rotate_left
                  focus (intro w hSw; (try dsimp only at hSw); have hq := (Ba.ext hSw).cell; have hq2 := (Ba.ext hSw).lt; go_simp <;> with_reducible rfl)
                  (try simp only [List.getElem_toArray, List.getElem_cons_zero, List.getElem_cons_succ, Act.put, List.setIfInBounds_toArray, List.set_cons_zero, List.set_cons_succ])
                  refine wpAnyH_take (i := 2) (v := ?_) rfl (by kernel_rfl) (by kernel_rfl) (by kernel_rfl) (fun _ _ _ h => h) (Or.inl ⟨by rfl, ?_⟩) (by assumption) ?_
                  rotate_left
                  focus (intro w hSw; (try dsimp only at hSw); have hq := (Bb.ext hSw).cell; have hq2 := (Bb.ext hSw).lt; go_simp <;> with_reducible rfl)
                  (try simp only [List.getElem_toArray, List.getElem_cons_zero, List.getElem_cons_succ, Act.put, List.setIfInBounds_toArray, List.set_cons_zero, List.set_cons_succ])
                  refine wpAnyH_ready (rs := [1, 5]) (by kernel_rfl) (by simp) ?_
                  refine AllReadyH.cons rfl (fun Kz hKz => ?_) (AllReadyH.cons rfl (fun Kz hKz => ?_) AllReadyH.nil)
                  · (try simp only [List.getElem_toArray, List.getElem_cons_zero, List.getElem_cons_succ])
                    go_simp
                    (go_at_call 7; refine (to_Sched (h0.ext (Ext.trans E12 (by exact extT))) q0_0).mono ?_; rintro e wa ⟨_, rfl, hxwa, F0, g0⟩; obtain ⟨ahp7, nhp7, khp7, rfl⟩ := g0.rd.shape; have hzwa := hxwa.size; (try simp only [size_drew, World.size_alloc] at hzwa); have XA : Ext w12 wa := Ext.trans (by exact extT) hxwa; (first | (have KU := Blk.ext KU hxwa; have CU := KU.cell; have FU := KU.frozen; have LU := KU.lt) | (have KU : Blk wa w12.heap.size 41 #[.int .i64 0, .int .i64 0, .int .i64 0, .int .i64 0, .int .i64 0, .int .i64 0, .int .i64 0, .slice none 0 0, .bool false, .int .i64 0, .int .i64 0, .int .i64 0, .int .i64 0, .int .i64 0, .int .i64 0] := Blk.ext (Blk.new w12.drew _ _) hxwa; have CU := KU.cell; have FU := KU.frozen; have LU := KU.lt) | skip))
                    refine hKz.out _ _ (by (try dsimp only); exact extT) (fun hHeld => ?_)
                    clear hKz Kz
                    (try simp only [List.getElem_toArray, List.getElem_cons_zero, List.getElem_cons_succ, Act.put, List.setIfInBounds_toArray, List.set_cons_zero, List.set_cons_succ])
                    refine wpAnyH_ready (rs := [3, 5]) (by kernel_rfl) (by simp) ?_
                    refine AllReadyH.cons rfl (fun Kz hKz => ?_) (AllReadyH.cons rfl (fun Kz hKz => ?_) AllReadyH.nil)
                    · (try simp only [List.getElem_toArray, List.getElem_cons_zero, List.getElem_cons_succ])
                      go_simp
                      (go_at_call 15; refine (toAck_c _ _ _ _ _).mono ?_; rintro e wb ⟨rfl, hxwb⟩; have hzwb := hxwb.size; (try simp only [size_drew, World.size_alloc] at hzwb); have XAB : Ext wa wb := Ext.trans (by exact extT) hxwb; have XB : Ext w12 wb := XA.trans XAB; (first | (have KU := Blk.ext KU hxwb; have CU := KU.cell; have FU := KU.frozen; have LU := KU.lt) | (have KU : Blk wb wa.heap.size 41 #[.int .i64 0, .int .i64 0, .int .i64 0, .int .i64 0, .int .i64 0, .int .i64 0, .int .i64 0, .slice none 0 0, .bool false, .int .i64 0, .int .i64 0, .int .i64 0, .int .i64 0, .int .i64 0, .int .i64 0] := Blk.ext (Blk.new wa _ _) hxwb; have CU := KU.cell; have FU := KU.frozen; have LU := KU.lt) | skip))
                      refine hKz.out _ _ (by (try dsimp only); exact extT) (fun hHeld => ?_)
                      clear hKz Kz
                      (try simp only [List.getElem_toArray, List.getElem_cons_zero, List.getElem_cons_succ, Act.put, List.setIfInBounds_toArray, List.set_cons_zero, List.set_cons_succ])
                      refine wpAnyH_ready (rs := [4, 5]) (by kernel_rfl) (by simp) ?_
                      refine AllReadyH.cons rfl (fun Kz hKz => ?_) (AllReadyH.cons rfl (fun Kz hKz => ?_) AllReadyH.nil)
                      · (try simp only [List.getElem_toArray, List.getElem_cons_zero, List.getElem_cons_succ])
                        go_simp
                        (go_at_call 16; refine (ackHeard_f ((g0.rd).ext (Ext.trans XAB (by exact extT))) c1_0 c1_1 c1_2 c1_3).mono ?_; rintro e wc ⟨_, rfl, hxwc, Fr, gr⟩; obtain ⟨ah7, nh7, kh7, rfl⟩ := gr.rd.shape; have hzwc := hxwc.size; (try simp only [size_drew, World.size_alloc] at hzwc); have XBC : Ext wb wc := Ext.trans (by exact extT) hxwc; have XC : Ext w12 wc := XB.trans XBC; have lr := gr.low; (try simp only [World.size_alloc, size_drew] at lr); (first | (have KU := Blk.ext KU hxwc; have CU := KU.cell; have FU := KU.frozen; have LU := KU.lt) | (have KU : Blk wc wb.heap.size 41 #[.int .i64 0, .int .i64 0, .int .i64 0, .int .i64 0, .int .i64 0, .int .i64 0, .int .i64 0, .slice none 0 0, .bool false, .int .i64 0, .int .i64 0, .int .i64 0, .int .i64 0, .int .i64 0, .int .i64 0] := Blk.ext (Blk.new wb _ _) hxwc; have CU := KU.cell; have FU := KU.frozen; have LU := KU.lt) | skip))
                        refine hKz.out _ _ (by (try dsimp only); exact extT) (fun hHeld => ?_)
                        clear hKz Kz
                        (try simp only [List.getElem_toArray, List.getElem_cons_zero, List.getElem_cons_succ, Act.put, List.setIfInBounds_toArray, List.set_cons_zero, List.set_cons_succ])
                        refine wpAnyH_ready (rs := [5]) (by kernel_rfl) (by simp) ?_
                        refine AllReadyH.cons rfl (fun Kz hKz => ?_) AllReadyH.nil
                        (try simp only [List.getElem_toArray, List.getElem_cons_zero, List.getElem_cons_succ])
                        go_simp
                        refine hKz.out _ _ (by (try dsimp only); exact extT) (fun hHeld => ?_)
                        clear hKz Kz
                        (try simp only [List.getElem_toArray, List.getElem_cons_zero, List.getElem_cons_succ, Act.put, List.setIfInBounds_toArray, List.set_cons_zero, List.set_cons_succ])
                        refine wpAnyH_ready (rs := [6]) (by kernel_rfl) (by simp) ?_
                        refine AllReadyH.cons rfl (fun Kz hKz => ?_) AllReadyH.nil
                        (try simp only [List.getElem_toArray, List.getElem_cons_zero, List.getElem_cons_succ])
                        first | (rw [if_pos (by rfl)]; refine wp_store_row 41 (.tmp 12) (.tmp 64) (by rfl) _ #[.int .i64 (ackH S c1_0 c1_1 c1_2 c1_3).Id, .int .i64 (ackH S c1_0 c1_1 c1_2 c1_3).Seq, .int .i64 (ackH S c1_0 c1_1 c1_2 c1_3).View.Jobs.Index, .int .i64 (ackH S c1_0 c1_1 c1_2 c1_3).View.Jobs.Time, .int .i64 (ackH S c1_0 c1_1 c1_2 c1_3).View.Jobs.Holder, .int .i64 (ackH S c1_0 c1_1 c1_2 c1_3).View.Jobs.Epoch, .int .i64 (ackH S c1_0 c1_1 c1_2 c1_3).View.Jobs.Until, .slice ah7 nh7 kh7, .bool (ackH S c1_0 c1_1 c1_2 c1_3).Busy, .int .i64 (ackH S c1_0 c1_1 c1_2 c1_3).Op.Kind, .int .i64 (ackH S c1_0 c1_1 c1_2 c1_3).Op.A, .int .i64 (ackH S c1_0 c1_1 c1_2 c1_3).Op.B, .int .i64 (ackH S c1_0 c1_1 c1_2 c1_3).Op.C, .int .i64 (ackH S c1_0 c1_1 c1_2 c1_3).Op.D, .int .i64 (ackH S c1_0 c1_1 c1_2 c1_3).Index] (by rfl) (by rfl) 41 _ KU (by kernel_rfl) rfl (by kernel_rfl) ?_) | go_simp
                        refine hKz.out _ _ (by (try dsimp only); exact extT) (fun hHeld => ?_)
                        clear hKz Kz
                        (try simp only [List.getElem_toArray, List.getElem_cons_zero, List.getElem_cons_succ, Act.put, List.setIfInBounds_toArray, List.set_cons_zero, List.set_cons_succ])
                        refine wpAnyH_done (by kernel_rfl) ?_ _
                        go_wp2_with fail
                        go_meet
                        case rel =>
                          (try simp only [World.size_alloc, size_drew])
                          first
                            | (refine ⟨ah7, nh7, kh7, wc.heap.size, by with_reducible rfl, ?_⟩; exact ⟨XC.alloc _, XC.size, Blk.new _ _ _, Fr, (gr.ext ((Ext.refl _).alloc _)).mono (by first | omega | (simp only [World.size_alloc, size_drew]; omega)), fun k hk => ⟨by have := lr k hk; (try simp only [World.size_alloc]); omega, by have := lr k hk; omega⟩⟩)
                            | (refine ⟨ah7, nh7, kh7, w12.heap.size, by with_reducible rfl, ?_⟩; refine ⟨by exact extT, by omega, Blk.cast (by exact blkT) (by simp only [List.setIfInBounds_toArray, List.set_cons_zero, List.set_cons_succ]), Fr, (gr.upd (fs := [w12.heap.size]) (by first | (with_reducible exact rowU _ _ _) | exact updT) (fun k hk h => by have := lr k hk; simp at h; omega)).mono (by first | omega | (simp only [World.size_alloc, size_drew]; omega)), fun k hk => ⟨by have := lr k hk; (try simp only [size_setRow, World.size_setCell]); omega, by have := lr k hk; omega⟩⟩)
                            | (refine ⟨ah7, nh7, kh7, wa.heap.size, by with_reducible rfl, ?_⟩; refine ⟨by exact extT, by omega, Blk.cast (by exact blkT) (by simp only [List.setIfInBounds_toArray, List.set_cons_zero, List.set_cons_succ]), Fr, (gr.upd (fs := [wa.heap.size]) (by first | (with_reducible exact rowU _ _ _) | exact updT) (fun k hk h => by have := lr k hk; simp at h; omega)).mono (by first | omega | (simp only [World.size_alloc, size_drew]; omega)), fun k hk => ⟨by have := lr k hk; (try simp only [size_setRow, World.size_setCell]); omega, by have := lr k hk; omega⟩⟩)
                            | (refine ⟨ah7, nh7, kh7, wb.heap.size, by with_reducible rfl, ?_⟩; refine ⟨by exact extT, by omega, Blk.cast (by exact blkT) (by simp only [List.setIfInBounds_toArray, List.set_cons_zero, List.set_cons_succ]), Fr, (gr.upd (fs := [wb.heap.size]) (by first | (with_reducible exact rowU _ _ _) | exact updT) (fun k hk h => by have := lr k hk; simp at h; omega)).mono (by first | omega | (simp only [World.size_alloc, size_drew]; omega)), fun k hk => ⟨by have := lr k hk; (try simp only [size_setRow, World.size_setCell]); omega, by have := lr k hk; omega⟩⟩)
                      · (try simp only [List.getElem_toArray, List.getElem_cons_zero, List.getElem_cons_succ])
                        go_simp
                        refine hKz.out _ _ (by (try dsimp only); exact extT) (fun hHeld => ?_)
                        clear hKz Kz
                        (try simp only [List.getElem_toArray, List.getElem_cons_zero, List.getElem_cons_succ, Act.put, List.setIfInBounds_toArray, List.set_cons_zero, List.set_cons_succ])
                        refine wpAnyH_ready (rs := [4]) (by kernel_rfl) (by simp) ?_
                        refine AllReadyH.cons rfl (fun Kz hKz => ?_) AllReadyH.nil
                        (try simp only [List.getElem_toArray, List.getElem_cons_zero, List.getElem_cons_succ])
                        go_simp
                        (go_at_call 16; refine (ackHeard_f ((g0.rd).ext (Ext.trans XAB (by exact extT))) c1_0 c1_1 c1_2 c1_3).mono ?_; rintro e wc ⟨_, rfl, hxwc, Fr, gr⟩; obtain ⟨ah7, nh7, kh7, rfl⟩ := gr.rd.shape; have hzwc := hxwc.size; (try simp only [size_drew, World.size_alloc] at hzwc); have XBC : Ext wb wc := Ext.trans (by exact extT) hxwc; have XC : Ext w12 wc := XB.trans XBC; have lr := gr.low; (try simp only [World.size_alloc, size_drew] at lr); (first | (have KU := Blk.ext KU hxwc; have CU := KU.cell; have FU := KU.frozen; have LU := KU.lt) | (have KU : Blk wc wb.heap.size 41 #[.int .i64 0, .int .i64 0, .int .i64 0, .int .i64 0, .int .i64 0, .int .i64 0, .int .i64 0, .slice none 0 0, .bool false, .int .i64 0, .int .i64 0, .int .i64 0, .int .i64 0, .int .i64 0, .int .i64 0] := Blk.ext (Blk.new wb _ _) hxwc; have CU := KU.cell; have FU := KU.frozen; have LU := KU.lt) | skip))
                        refine hKz.out _ _ (by (try dsimp only); exact extT) (fun hHeld => ?_)
                        clear hKz Kz
                        (try simp only [List.getElem_toArray, List.getElem_cons_zero, List.getElem_cons_succ, Act.put, List.setIfInBounds_toArray, List.set_cons_zero, List.set_cons_succ])
                        refine wpAnyH_ready (rs := [6]) (by kernel_rfl) (by simp) ?_
                        refine AllReadyH.cons rfl (fun Kz hKz => ?_) AllReadyH.nil
                        (try simp only [List.getElem_toArray, List.getElem_cons_zero, List.getElem_cons_succ])
                        first | (rw [if_pos (by rfl)]; refine wp_store_row 41 (.tmp 12) (.tmp 64) (by rfl) _ #[.int .i64 (ackH S c1_0 c1_1 c1_2 c1_3).Id, .int .i64 (ackH S c1_0 c1_1 c1_2 c1_3).Seq, .int .i64 (ackH S c1_0 c1_1 c1_2 c1_3).View.Jobs.Index, .int .i64 (ackH S c1_0 c1_1 c1_2 c1_3).View.Jobs.Time, .int .i64 (ackH S c1_0 c1_1 c1_2 c1_3).View.Jobs.Holder, .int .i64 (ackH S c1_0 c1_1 c1_2 c1_3).View.Jobs.Epoch, .int .i64 (ackH S c1_0 c1_1 c1_2 c1_3).View.Jobs.Until, .slice ah7 nh7 kh7, .bool (ackH S c1_0 c1_1 c1_2 c1_3).Busy, .int .i64 (ackH S c1_0 c1_1 c1_2 c1_3).Op.Kind, .int .i64 (ackH S c1_0 c1_1 c1_2 c1_3).Op.A, .int .i64 (ackH S c1_0 c1_1 c1_2 c1_3).Op.B, .int .i64 (ackH S c1_0 c1_1 c1_2 c1_3).Op.C, .int .i64 (ackH S c1_0 c1_1 c1_2 c1_3).Op.D, .int .i64 (ackH S c1_0 c1_1 c1_2 c1_3).Index] (by rfl) (by rfl) 41 _ KU (by kernel_rfl) rfl (by kernel_rfl) ?_) | go_simp
                        refine hKz.out _ _ (by (try dsimp only); exact extT) (fun hHeld => ?_)
                        clear hKz Kz
                        (try simp only [List.getElem_toArray, List.getElem_cons_zero, List.getElem_cons_succ, Act.put, List.setIfInBounds_toArray, List.set_cons_zero, List.set_cons_succ])
                        refine wpAnyH_done (by kernel_rfl) ?_ _
                        go_wp2_with fail
                        go_meet
                        case rel =>
                          (try simp only [World.size_alloc, size_drew])
                          first
                            | (refine ⟨ah7, nh7, kh7, wc.heap.size, by with_reducible rfl, ?_⟩; exact ⟨XC.alloc _, XC.size, Blk.new _ _ _, Fr, (gr.ext ((Ext.refl _).alloc _)).mono (by first | omega | (simp only [World.size_alloc, size_drew]; omega)), fun k hk => ⟨by have := lr k hk; (try simp only [World.size_alloc]); omega, by have := lr k hk; omega⟩⟩)
                            | (refine ⟨ah7, nh7, kh7, w12.heap.size, by with_reducible rfl, ?_⟩; refine ⟨by exact extT, by omega, Blk.cast (by exact blkT) (by simp only [List.setIfInBounds_toArray, List.set_cons_zero, List.set_cons_succ]), Fr, (gr.upd (fs := [w12.heap.size]) (by first | (with_reducible exact rowU _ _ _) | exact updT) (fun k hk h => by have := lr k hk; simp at h; omega)).mono (by first | omega | (simp only [World.size_alloc, size_drew]; omega)), fun k hk => ⟨by have := lr k hk; (try simp only [size_setRow, World.size_setCell]); omega, by have := lr k hk; omega⟩⟩)
                            | (refine ⟨ah7, nh7, kh7, wa.heap.size, by with_reducible rfl, ?_⟩; refine ⟨by exact extT, by omega, Blk.cast (by exact blkT) (by simp only [List.setIfInBounds_toArray, List.set_cons_zero, List.set_cons_succ]), Fr, (gr.upd (fs := [wa.heap.size]) (by first | (with_reducible exact rowU _ _ _) | exact updT) (fun k hk h => by have := lr k hk; simp at h; omega)).mono (by first | omega | (simp only [World.size_alloc, size_drew]; omega)), fun k hk => ⟨by have := lr k hk; (try simp only [size_setRow, World.size_setCell]); omega, by have := lr k hk; omega⟩⟩)
                            | (refine ⟨ah7, nh7, kh7, wb.heap.size, by with_reducible rfl, ?_⟩; refine ⟨by exact extT, by omega, Blk.cast (by exact blkT) (by simp only [List.setIfInBounds_toArray, List.set_cons_zero, List.set_cons_succ]), Fr, (gr.upd (fs := [wb.heap.size]) (by first | (with_reducible exact rowU _ _ _) | exact updT) (fun k hk h => by have := lr k hk; simp at h; omega)).mono (by first | omega | (simp only [World.size_alloc, size_drew]; omega)), fun k hk => ⟨by have := lr k hk; (try simp only [size_setRow, World.size_setCell]); omega, by have := lr k hk; omega⟩⟩)
                    · (try simp only [List.getElem_toArray, List.getElem_cons_zero, List.getElem_cons_succ])
                      go_simp
                      refine hKz.out _ _ (by (try dsimp only); exact extT) (fun hHeld => ?_)
                      clear hKz Kz
                      (try simp only [List.getElem_toArray, List.getElem_cons_zero, List.getElem_cons_succ, Act.put, List.setIfInBounds_toArray, List.set_cons_zero, List.set_cons_succ])
                      refine wpAnyH_ready (rs := [3]) (by kernel_rfl) (by simp) ?_
                      refine AllReadyH.cons rfl (fun Kz hKz => ?_) AllReadyH.nil
                      (try simp only [List.getElem_toArray, List.getElem_cons_zero, List.getElem_cons_succ])
                      go_simp
                      (go_at_call 15; refine (toAck_c _ _ _ _ _).mono ?_; rintro e wb ⟨rfl, hxwb⟩; have hzwb := hxwb.size; (try simp only [size_drew, World.size_alloc] at hzwb); have XAB : Ext wa wb := Ext.trans (by exact extT) hxwb; have XB : Ext w12 wb := XA.trans XAB; (first | (have KU := Blk.ext KU hxwb; have CU := KU.cell; have FU := KU.frozen; have LU := KU.lt) | (have KU : Blk wb wa.heap.size 41 #[.int .i64 0, .int .i64 0, .int .i64 0, .int .i64 0, .int .i64 0, .int .i64 0, .int .i64 0, .slice none 0 0, .bool false, .int .i64 0, .int .i64 0, .int .i64 0, .int .i64 0, .int .i64 0, .int .i64 0] := Blk.ext (Blk.new wa _ _) hxwb; have CU := KU.cell; have FU := KU.frozen; have LU := KU.lt) | skip))
                      refine hKz.out _ _ (by (try dsimp only); exact extT) (fun hHeld => ?_)
                      clear hKz Kz
                      (try simp only [List.getElem_toArray, List.getElem_cons_zero, List.getElem_cons_succ, Act.put, List.setIfInBounds_toArray, List.set_cons_zero, List.set_cons_succ])
                      refine wpAnyH_ready (rs := [4]) (by kernel_rfl) (by simp) ?_
                      refine AllReadyH.cons rfl (fun Kz hKz => ?_) AllReadyH.nil
                      (try simp only [List.getElem_toArray, List.getElem_cons_zero, List.getElem_cons_succ])
                      go_simp
                      (go_at_call 16; refine (ackHeard_f ((g0.rd).ext (Ext.trans XAB (by exact extT))) c1_0 c1_1 c1_2 c1_3).mono ?_; rintro e wc ⟨_, rfl, hxwc, Fr, gr⟩; obtain ⟨ah7, nh7, kh7, rfl⟩ := gr.rd.shape; have hzwc := hxwc.size; (try simp only [size_drew, World.size_alloc] at hzwc); have XBC : Ext wb wc := Ext.trans (by exact extT) hxwc; have XC : Ext w12 wc := XB.trans XBC; have lr := gr.low; (try simp only [World.size_alloc, size_drew] at lr); (first | (have KU := Blk.ext KU hxwc; have CU := KU.cell; have FU := KU.frozen; have LU := KU.lt) | (have KU : Blk wc wb.heap.size 41 #[.int .i64 0, .int .i64 0, .int .i64 0, .int .i64 0, .int .i64 0, .int .i64 0, .int .i64 0, .slice none 0 0, .bool false, .int .i64 0, .int .i64 0, .int .i64 0, .int .i64 0, .int .i64 0, .int .i64 0] := Blk.ext (Blk.new wb _ _) hxwc; have CU := KU.cell; have FU := KU.frozen; have LU := KU.lt) | skip))
                      refine hKz.out _ _ (by (try dsimp only); exact extT) (fun hHeld => ?_)
                      clear hKz Kz
                      (try simp only [List.getElem_toArray, List.getElem_cons_zero, List.getElem_cons_succ, Act.put, List.setIfInBounds_toArray, List.set_cons_zero, List.set_cons_succ])
                      refine wpAnyH_ready (rs := [6]) (by kernel_rfl) (by simp) ?_
                      refine AllReadyH.cons rfl (fun Kz hKz => ?_) AllReadyH.nil
                      (try simp only [List.getElem_toArray, List.getElem_cons_zero, List.getElem_cons_succ])
                      first | (rw [if_pos (by rfl)]; refine wp_store_row 41 (.tmp 12) (.tmp 64) (by rfl) _ #[.int .i64 (ackH S c1_0 c1_1 c1_2 c1_3).Id, .int .i64 (ackH S c1_0 c1_1 c1_2 c1_3).Seq, .int .i64 (ackH S c1_0 c1_1 c1_2 c1_3).View.Jobs.Index, .int .i64 (ackH S c1_0 c1_1 c1_2 c1_3).View.Jobs.Time, .int .i64 (ackH S c1_0 c1_1 c1_2 c1_3).View.Jobs.Holder, .int .i64 (ackH S c1_0 c1_1 c1_2 c1_3).View.Jobs.Epoch, .int .i64 (ackH S c1_0 c1_1 c1_2 c1_3).View.Jobs.Until, .slice ah7 nh7 kh7, .bool (ackH S c1_0 c1_1 c1_2 c1_3).Busy, .int .i64 (ackH S c1_0 c1_1 c1_2 c1_3).Op.Kind, .int .i64 (ackH S c1_0 c1_1 c1_2 c1_3).Op.A, .int .i64 (ackH S c1_0 c1_1 c1_2 c1_3).Op.B, .int .i64 (ackH S c1_0 c1_1 c1_2 c1_3).Op.C, .int .i64 (ackH S c1_0 c1_1 c1_2 c1_3).Op.D, .int .i64 (ackH S c1_0 c1_1 c1_2 c1_3).Index] (by rfl) (by rfl) 41 _ KU (by kernel_rfl) rfl (by kernel_rfl) ?_) | go_simp
                      refine hKz.out _ _ (by (try dsimp only); exact extT) (fun hHeld => ?_)
                      clear hKz Kz
                      (try simp only [List.getElem_toArray, List.getElem_cons_zero, List.getElem_cons_succ, Act.put, List.setIfInBounds_toArray, List.set_cons_zero, List.set_cons_succ])
                      refine wpAnyH_done (by kernel_rfl) ?_ _
                      go_wp2_with fail
                      go_meet
                      case rel =>
                        (try simp only [World.size_alloc, size_drew])
                        first
                          | (refine ⟨ah7, nh7, kh7, wc.heap.size, by with_reducible rfl, ?_⟩; exact ⟨XC.alloc _, XC.size, Blk.new _ _ _, Fr, (gr.ext ((Ext.refl _).alloc _)).mono (by first | omega | (simp only [World.size_alloc, size_drew]; omega)), fun k hk => ⟨by have := lr k hk; (try simp only [World.size_alloc]); omega, by have := lr k hk; omega⟩⟩)
                          | (refine ⟨ah7, nh7, kh7, w12.heap.size, by with_reducible rfl, ?_⟩; refine ⟨by exact extT, by omega, Blk.cast (by exact blkT) (by simp only [List.setIfInBounds_toArray, List.set_cons_zero, List.set_cons_succ]), Fr, (gr.upd (fs := [w12.heap.size]) (by first | (with_reducible exact rowU _ _ _) | exact updT) (fun k hk h => by have := lr k hk; simp at h; omega)).mono (by first | omega | (simp only [World.size_alloc, size_drew]; omega)), fun k hk => ⟨by have := lr k hk; (try simp only [size_setRow, World.size_setCell]); omega, by have := lr k hk; omega⟩⟩)
                          | (refine ⟨ah7, nh7, kh7, wa.heap.size, by with_reducible rfl, ?_⟩; refine ⟨by exact extT, by omega, Blk.cast (by exact blkT) (by simp only [List.setIfInBounds_toArray, List.set_cons_zero, List.set_cons_succ]), Fr, (gr.upd (fs := [wa.heap.size]) (by first | (with_reducible exact rowU _ _ _) | exact updT) (fun k hk h => by have := lr k hk; simp at h; omega)).mono (by first | omega | (simp only [World.size_alloc, size_drew]; omega)), fun k hk => ⟨by have := lr k hk; (try simp only [size_setRow, World.size_setCell]); omega, by have := lr k hk; omega⟩⟩)
                          | (refine ⟨ah7, nh7, kh7, wb.heap.size, by with_reducible rfl, ?_⟩; refine ⟨by exact extT, by omega, Blk.cast (by exact blkT) (by simp only [List.setIfInBounds_toArray, List.set_cons_zero, List.set_cons_succ]), Fr, (gr.upd (fs := [wb.heap.size]) (by first | (with_reducible exact rowU _ _ _) | exact updT) (fun k hk h => by have := lr k hk; simp at h; omega)).mono (by first | omega | (simp only [World.size_alloc, size_drew]; omega)), fun k hk => ⟨by have := lr k hk; (try simp only [size_setRow, World.size_setCell]); omega, by have := lr k hk; omega⟩⟩)
                  · (try simp only [List.getElem_toArray, List.getElem_cons_zero, List.getElem_cons_succ])
                    go_simp
                    refine hKz.out _ _ (by (try dsimp only); exact extT) (fun hHeld => ?_)
                    clear hKz Kz
                    (try simp only [List.getElem_toArray, List.getElem_cons_zero, List.getElem_cons_succ, Act.put, List.setIfInBounds_toArray, List.set_cons_zero, List.set_cons_succ])
                    refine wpAnyH_ready (rs := [1]) (by kernel_rfl) (by simp) ?_
                    refine AllReadyH.cons rfl (fun Kz hKz => ?_) AllReadyH.nil
                    (try simp only [List.getElem_toArray, List.getElem_cons_zero, List.getElem_cons_succ])
                    go_simp
                    (go_at_call 7; refine (to_Sched (h0.ext (Ext.trans E12 (by exact extT))) q0_0).mono ?_; rintro e wa ⟨_, rfl, hxwa, F0, g0⟩; obtain ⟨ahp7, nhp7, khp7, rfl⟩ := g0.rd.shape; have hzwa := hxwa.size; (try simp only [size_drew, World.size_alloc] at hzwa); have XA : Ext w12 wa := Ext.trans (by exact extT) hxwa; (first | (have KU := Blk.ext KU hxwa; have CU := KU.cell; have FU := KU.frozen; have LU := KU.lt) | (have KU : Blk wa w12.heap.size 41 #[.int .i64 0, .int .i64 0, .int .i64 0, .int .i64 0, .int .i64 0, .int .i64 0, .int .i64 0, .slice none 0 0, .bool false, .int .i64 0, .int .i64 0, .int .i64 0, .int .i64 0, .int .i64 0, .int .i64 0] := Blk.ext (Blk.new w12.drew _ _) hxwa; have CU := KU.cell; have FU := KU.frozen; have LU := KU.lt) | skip))
                    refine hKz.out _ _ (by (try dsimp only); exact extT) (fun hHeld => ?_)
                    clear hKz Kz
                    (try simp only [List.getElem_toArray, List.getElem_cons_zero, List.getElem_cons_succ, Act.put, List.setIfInBounds_toArray, List.set_cons_zero, List.set_cons_succ])
                    refine wpAnyH_ready (rs := [3]) (by kernel_rfl) (by simp) ?_
                    refine AllReadyH.cons rfl (fun Kz hKz => ?_) AllReadyH.nil
                    (try simp only [List.getElem_toArray, List.getElem_cons_zero, List.getElem_cons_succ])
                    go_simp
                    (go_at_call 15; refine (toAck_c _ _ _ _ _).mono ?_; rintro e wb ⟨rfl, hxwb⟩; have hzwb := hxwb.size; (try simp only [size_drew, World.size_alloc] at hzwb); have XAB : Ext wa wb := Ext.trans (by exact extT) hxwb; have XB : Ext w12 wb := XA.trans XAB; (first | (have KU := Blk.ext KU hxwb; have CU := KU.cell; have FU := KU.frozen; have LU := KU.lt) | (have KU : Blk wb wa.heap.size 41 #[.int .i64 0, .int .i64 0, .int .i64 0, .int .i64 0, .int .i64 0, .int .i64 0, .int .i64 0, .slice none 0 0, .bool false, .int .i64 0, .int .i64 0, .int .i64 0, .int .i64 0, .int .i64 0, .int .i64 0] := Blk.ext (Blk.new wa _ _) hxwb; have CU := KU.cell; have FU := KU.frozen; have LU := KU.lt) | skip))
                    refine hKz.out _ _ (by (try dsimp only); exact extT) (fun hHeld => ?_)
                    clear hKz Kz
                    (try simp only [List.getElem_toArray, List.getElem_cons_zero, List.getElem_cons_succ, Act.put, List.setIfInBounds_toArray, List.set_cons_zero, List.set_cons_succ])
                    refine wpAnyH_ready (rs := [4]) (by kernel_rfl) (by simp) ?_
                    refine AllReadyH.cons rfl (fun Kz hKz => ?_) AllReadyH.nil
                    (try simp only [List.getElem_toArray, List.getElem_cons_zero, List.getElem_cons_succ])
                    go_simp
                    (go_at_call 16; refine (ackHeard_f ((g0.rd).ext (Ext.trans XAB (by exact extT))) c1_0 c1_1 c1_2 c1_3).mono ?_; rintro e wc ⟨_, rfl, hxwc, Fr, gr⟩; obtain ⟨ah7, nh7, kh7, rfl⟩ := gr.rd.shape; have hzwc := hxwc.size; (try simp only [size_drew, World.size_alloc] at hzwc); have XBC : Ext wb wc := Ext.trans (by exact extT) hxwc; have XC : Ext w12 wc := XB.trans XBC; have lr := gr.low; (try simp only [World.size_alloc, size_drew] at lr); (first | (have KU := Blk.ext KU hxwc; have CU := KU.cell; have FU := KU.frozen; have LU := KU.lt) | (have KU : Blk wc wb.heap.size 41 #[.int .i64 0, .int .i64 0, .int .i64 0, .int .i64 0, .int .i64 0, .int .i64 0, .int .i64 0, .slice none 0 0, .bool false, .int .i64 0, .int .i64 0, .int .i64 0, .int .i64 0, .int .i64 0, .int .i64 0] := Blk.ext (Blk.new wb _ _) hxwc; have CU := KU.cell; have FU := KU.frozen; have LU := KU.lt) | skip))
                    refine hKz.out _ _ (by (try dsimp only); exact extT) (fun hHeld => ?_)
                    clear hKz Kz
                    (try simp only [List.getElem_toArray, List.getElem_cons_zero, List.getElem_cons_succ, Act.put, List.setIfInBounds_toArray, List.set_cons_zero, List.set_cons_succ])
                    refine wpAnyH_ready (rs := [6]) (by kernel_rfl) (by simp) ?_
                    refine AllReadyH.cons rfl (fun Kz hKz => ?_) AllReadyH.nil
                    (try simp only [List.getElem_toArray, List.getElem_cons_zero, List.getElem_cons_succ])
                    first | (rw [if_pos (by rfl)]; refine wp_store_row 41 (.tmp 12) (.tmp 64) (by rfl) _ #[.int .i64 (ackH S c1_0 c1_1 c1_2 c1_3).Id, .int .i64 (ackH S c1_0 c1_1 c1_2 c1_3).Seq, .int .i64 (ackH S c1_0 c1_1 c1_2 c1_3).View.Jobs.Index, .int .i64 (ackH S c1_0 c1_1 c1_2 c1_3).View.Jobs.Time, .int .i64 (ackH S c1_0 c1_1 c1_2 c1_3).View.Jobs.Holder, .int .i64 (ackH S c1_0 c1_1 c1_2 c1_3).View.Jobs.Epoch, .int .i64 (ackH S c1_0 c1_1 c1_2 c1_3).View.Jobs.Until, .slice ah7 nh7 kh7, .bool (ackH S c1_0 c1_1 c1_2 c1_3).Busy, .int .i64 (ackH S c1_0 c1_1 c1_2 c1_3).Op.Kind, .int .i64 (ackH S c1_0 c1_1 c1_2 c1_3).Op.A, .int .i64 (ackH S c1_0 c1_1 c1_2 c1_3).Op.B, .int .i64 (ackH S c1_0 c1_1 c1_2 c1_3).Op.C, .int .i64 (ackH S c1_0 c1_1 c1_2 c1_3).Op.D, .int .i64 (ackH S c1_0 c1_1 c1_2 c1_3).Index] (by rfl) (by rfl) 41 _ KU (by kernel_rfl) rfl (by kernel_rfl) ?_) | go_simp
                    refine hKz.out _ _ (by (try dsimp only); exact extT) (fun hHeld => ?_)
                    clear hKz Kz
                    (try simp only [List.getElem_toArray, List.getElem_cons_zero, List.getElem_cons_succ, Act.put, List.setIfInBounds_toArray, List.set_cons_zero, List.set_cons_succ])
                    refine wpAnyH_done (by kernel_rfl) ?_ _
                    go_wp2_with fail
                    go_meet
                    case rel =>
                      (try simp only [World.size_alloc, size_drew])
                      first
                        | (refine ⟨ah7, nh7, kh7, wc.heap.size, by with_reducible rfl, ?_⟩; exact ⟨XC.alloc _, XC.size, Blk.new _ _ _, Fr, (gr.ext ((Ext.refl _).alloc _)).mono (by first | omega | (simp only [World.size_alloc, size_drew]; omega)), fun k hk => ⟨by have := lr k hk; (try simp only [World.size_alloc]); omega, by have := lr k hk; omega⟩⟩)
                        | (refine ⟨ah7, nh7, kh7, w12.heap.size, by with_reducible rfl, ?_⟩; refine ⟨by exact extT, by omega, Blk.cast (by exact blkT) (by simp only [List.setIfInBounds_toArray, List.set_cons_zero, List.set_cons_succ]), Fr, (gr.upd (fs := [w12.heap.size]) (by first | (with_reducible exact rowU _ _ _) | exact updT) (fun k hk h => by have := lr k hk; simp at h; omega)).mono (by first | omega | (simp only [World.size_alloc, size_drew]; omega)), fun k hk => ⟨by have := lr k hk; (try simp only [size_setRow, World.size_setCell]); omega, by have := lr k hk; omega⟩⟩)
                        | (refine ⟨ah7, nh7, kh7, wa.heap.size, by with_reducible rfl, ?_⟩; refine ⟨by exact extT, by omega, Blk.cast (by exact blkT) (by simp only [List.setIfInBounds_toArray, List.set_cons_zero, List.set_cons_succ]), Fr, (gr.upd (fs := [wa.heap.size]) (by first | (with_reducible exact rowU _ _ _) | exact updT) (fun k hk h => by have := lr k hk; simp at h; omega)).mono (by first | omega | (simp only [World.size_alloc, size_drew]; omega)), fun k hk => ⟨by have := lr k hk; (try simp only [size_setRow, World.size_setCell]); omega, by have := lr k hk; omega⟩⟩)
                        | (refine ⟨ah7, nh7, kh7, wb.heap.size, by with_reducible rfl, ?_⟩; refine ⟨by exact extT, by omega, Blk.cast (by exact blkT) (by simp only [List.setIfInBounds_toArray, List.set_cons_zero, List.set_cons_succ]), Fr, (gr.upd (fs := [wb.heap.size]) (by first | (with_reducible exact rowU _ _ _) | exact updT) (fun k hk h => by have := lr k hk; simp at h; omega)).mono (by first | omega | (simp only [World.size_alloc, size_drew]; omega)), fun k hk => ⟨by have := lr k hk; (try simp only [size_setRow, World.size_setCell]); omega, by have := lr k hk; omega⟩⟩)
                case rest =>
                  revert wc; intro w13 hcut
                  obtain ⟨ah7, nh7, kh7, bh, rfl, X13, hgeh, Bh, Fh, gh, hloh⟩ := hcut
                  have lh : ∀ k, k ∈ Fh → w12.heap.size ≤ k ∧ k < w13.heap.size := fun k hk => ⟨(gh.low k hk).1, (hloh k hk).1⟩
                  have hb2h : ∀ k, k ∈ Fh → k ≠ bh := fun k hk => (hloh k hk).2
                  clear hloh
                  have MBh := Bh.lt
                  have Z13 := X13.size; have E13 : Ext w w13 := E12.trans X13
                  replace Ba := Ba.ext X13
                  replace Bb := Bb.ext X13
                  replace Bw := Bw.ext X13
                  replace gw := gw.ext X13
                  replace Bx := Bx.ext X13
                  replace Bg := Bg.ext X13
                  replace gm := gm.ext X13
                  have CBa := Ba.cell; have LBa := Ba.lt
                  have CBb := Bb.cell; have LBb := Bb.lt
                  have CBw := Bw.cell; have LBw := Bw.lt
                  have CBx := Bx.cell; have LBx := Bx.lt
                  have CBg := Bg.cell; have LBg := Bg.lt
                  have CBh := Bh.cell; have LBh := Bh.lt
                  as_aux_lemma =>
                    go_wp2_with fail
                    refine (eq_Sched ((gh.rd).ext (by repeat' (first | (with_reducible exact Ext.refl _) | (with_reducible assumption) | (with_reducible refine Ext.drewN ?_ _) | (with_reducible refine Ext.drew ?_) | (with_reducible refine Ext.alloc ?_ _) | (with_reducible refine Ext.setCell ?_ ?_ _) | (with_reducible refine Ext.setRow ?_ ?_ _) | (with_reducible exact Nat.le_refl _) | (with_reducible refine Ext.trans ?_ (by assumption)) | omega))) ((gw.rd).ext (by repeat' (first | (with_reducible exact Ext.refl _) | (with_reducible assumption) | (with_reducible refine Ext.drewN ?_ _) | (with_reducible refine Ext.drew ?_) | (with_reducible refine Ext.alloc ?_ _) | (with_reducible refine Ext.setCell ?_ ?_ _) | (with_reducible refine Ext.setRow ?_ ?_ _) | (with_reducible exact Nat.le_refl _) | (with_reducible refine Ext.trans ?_ (by assumption)) | omega)))).mono ?_
                    rintro e w14 ⟨rfl, hx14⟩
                    have X14 : Ext w13 w14 := by repeat' (first | (with_reducible exact Ext.refl _) | (with_reducible assumption) | (with_reducible refine Ext.drewN ?_ _) | (with_reducible refine Ext.drew ?_) | (with_reducible refine Ext.alloc ?_ _) | (with_reducible refine Ext.setCell ?_ ?_ _) | (with_reducible refine Ext.setRow ?_ ?_ _) | (with_reducible exact Nat.le_refl _) | (with_reducible refine Ext.trans ?_ (by assumption)) | omega)
                    have Z14 := X14.size
                    have E14 : Ext w w14 := E13.trans X14
                    replace Ba := Ba.ext X14
                    replace Bb := Bb.ext X14
                    replace Bw := Bw.ext X14
                    replace gw := gw.ext X14
                    replace Bx := Bx.ext X14
                    replace Bg := Bg.ext X14
                    replace gm := gm.ext X14
                    replace Bh := Bh.ext X14
                    replace gh := gh.ext X14
                    clear hx14
                    clear CBa LBa CBb LBb CBw LBw CBx LBx CBg LBg CBh LBh
                    have CBa := Ba.cell; have LBa := Ba.lt
                    have CBb := Bb.cell; have LBb := Bb.lt
                    have CBw := Bw.cell; have LBw := Bw.lt
                    have CBx := Bx.cell; have LBx := Bx.lt
                    have CBg := Bg.cell; have LBg := Bg.lt
                    have CBh := Bh.cell; have LBh := Bh.lt
                    go_wp2_with fail
                    refine (held_Sched (gm.ext (by repeat' (first | (with_reducible exact Ext.refl _) | (with_reducible assumption) | (with_reducible refine Ext.drewN ?_ _) | (with_reducible refine Ext.drew ?_) | (with_reducible refine Ext.alloc ?_ _) | (with_reducible refine Ext.setCell ?_ ?_ _) | (with_reducible refine Ext.setRow ?_ ?_ _) | (with_reducible exact Nat.le_refl _) | (with_reducible refine Ext.trans ?_ (by assumption)) | omega))) (by omega) (by have := nb; omega)).mono ?_
                    rintro e w15 ⟨rfl, hx15⟩
                    rw [← HN.out]
                    have X15 : Ext w14 w15 := by repeat' (first | (with_reducible exact Ext.refl _) | (with_reducible assumption) | (with_reducible refine Ext.drewN ?_ _) | (with_reducible refine Ext.drew ?_) | (with_reducible refine Ext.alloc ?_ _) | (with_reducible refine Ext.setCell ?_ ?_ _) | (with_reducible refine Ext.setRow ?_ ?_ _) | (with_reducible exact Nat.le_refl _) | (with_reducible refine Ext.trans ?_ (by assumption)) | omega)
                    have Z15 := X15.size
                    have E15 : Ext w w15 := E14.trans X15
                    replace Ba := Ba.ext X15
                    replace Bb := Bb.ext X15
                    replace Bw := Bw.ext X15
                    replace gw := gw.ext X15
                    replace Bx := Bx.ext X15
                    replace Bg := Bg.ext X15
                    replace gm := gm.ext X15
                    replace Bh := Bh.ext X15
                    replace gh := gh.ext X15
                    clear hx15
                    clear CBa LBa CBb LBb CBw LBw CBx LBx CBg LBg CBh LBh
                    have CBa := Ba.cell; have LBa := Ba.lt
                    have CBb := Bb.cell; have LBb := Bb.lt
                    have CBw := Bw.cell; have LBw := Bw.lt
                    have CBx := Bx.cell; have LBx := Bx.lt
                    have CBg := Bg.cell; have LBg := Bg.lt
                    have CBh := Bh.cell; have LBh := Bh.lt
                    go_wp2
                    go_ret
                    exact ⟨rfl, E15⟩
end Go.Proofs.Ytemfcogdjmjplaa
