/- Contracts and plain laws: Q9. -/
import Derived.Test.YtohoemphmghblaaGi
-- Disks that fall.
set_option linter.unusedSimpArgs false
set_option linter.unusedVariables false
namespace Go.Proofs.Ytohoemphmghblaa
open Go.RowKit Go.G8

set_option maxHeartbeats 8000000 in
set_option maxRecDepth 100000 in
theorem fallen_c (w : World) (s0_0 : Value) (l0_0 : List (List Int)) (s0_1 : Value) (l0_1 : List DWrite) (s1_0 : Value) (fates : List Int) (h0_0 : Nest 0 w s0_0 (nestInt64S l0_0)) (h0_1 : Nest 1 w s0_1 (nestWrite l0_1)) (h1_0 : Ints 1 w s1_0 fates) :
    Calls Try.prog 13 #[.agg #[s0_0, s0_1], s1_0] w (Ret w fun r0 w' => IsDisk w.heap.size w' r0 (fallenDisk false fates ⟨l0_0, l0_1⟩)) := by
  obtain ⟨a2, cap2, rfl, hc2, hm2, ha2⟩ := h1_0.one
  have HC := Lib.hid ha2
  clear ha2
  unfold maxLen at hm2
  obtain ⟨a0, n0, k0, rfl⟩ := h0_0.shape
  obtain ⟨a1, n1, k1, rfl⟩ := h0_1.shape
  obtain ⟨W0, hW0⟩ : ∃ W0, W0 = (w.alloc (.cells #[.slice a0 n0 k0, .slice a1 n1 k1] 42)).alloc (.cells #[.slice none 0 0, .slice none 0 0] 42) := ⟨_, rfl⟩
  have hE0 : Ext w W0 := by rw [hW0]; exact ((Ext.refl _).alloc _).alloc _
  have hs0 : W0.heap.size = w.heap.size + 1 + 1 := by rw [hW0]; simp
  have KR0 : Blk W0 (w.heap.size + 1) 42 #[.slice none 0 0, .slice none 0 0] := by rw [hW0]; exact Blk.new2 _ _ _ _
  have KP0 : Blk W0 w.heap.size 42 #[.slice a0 n0 k0, .slice a1 n1 k1] := by rw [hW0]; exact (Blk.new _ _ _).alloc _
  have HW0 := Lib.hid hW0
  clear hW0
  go_enter Try.func13, Try.ntmps13
  go_wp2_with fail
  rw [← HW0.out]
  refine (diskOk_c _ _ _ _ _ (h0_0.ext hE0) (h0_1.ext hE0)).mono ?_
  rintro e w1 ⟨rfl, hx1⟩
  have hz1 := hx1.size; have KR1 := KR0.ext hx1; have KP1 := KP0.ext hx1; have CR1 := KR1.cell; have FR1 := KR1.frozen; have CP1 := KP1.cell
  have hE1 : Ext w w1 := hE0.trans hx1
  cases hb : diskOk ⟨l0_0, l0_1⟩
  · go_wp2_with fail
    refine bodyPost_ret (by simp [results, Try.results13, go_sem, *]; try rfl) rfl ?_
    refine ⟨_, rfl, ?_, (IsDisk.nil _ _).cast (by simp [fallenDisk, hb])⟩
    exact Ext.setCell (Ext.setCell hE1 (by omega) _) (by omega) _
  obtain ⟨hr1, hr2, hk1, hk2, hk3⟩ := diskOk_rows hb
  simp only [] at hr1 hr2 hk1 hk2 hk3
  have HR2 := Lib.hid hr2
  clear hr1 hr2
  have HOK := Lib.hid (fallK_ok (all := false) (fates := fates) hb)
  go_wp2_with fail
  refine (copyDisk_c _ _ l0_0 _ l0_1 (h0_0.ext hE1) (h0_1.ext hE1) (diskOk_small hb)).mono ?_
  rintro e w2 ⟨_, rfl, hx2, t0, t1, ss, ss1, rfl, ho0, ho1, hdj⟩
  have ho0 : OwnNs w1.heap.size 47 2 0 w2 t0 (nestInt64S l0_0) ss := ho0
  have ho1 : OwnNs w1.heap.size 71 2 1 w2 t1 (nestWrite l0_1) ss1 := ho1
  have hl0 : (nestInt64S l0_0).length = l0_0.length := by simp [nestInt64S]
  have hl1 : (nestWrite l0_1).length = l0_1.length := by simp [nestWrite]
  obtain ⟨g, oc, cur, rfl, hcp1, hcp2, hBg, _, _⟩ := ho0.open_ (by omega)
  obtain ⟨pa, pc, rfl, hpc1, hpc2⟩ := ho1.len
  rw [hl0] at ho0 hdj ⊢
  rw [hl1] at ho1 hdj ⊢
  have KR2 := KR1.ext hx2
  have hz2 := hx2.size
  obtain ⟨X, hX⟩ : ∃ X, X = w2.heap.size := ⟨_, rfl⟩
  obtain ⟨W2, hW2⟩ : ∃ W2, W2 = w2.alloc (.cells #[.slice (some ⟨g, 0, none⟩) l0_0.length oc, .slice pa l0_1.length pc] 42) := ⟨_, rfl⟩
  have hK0 : Blk W2 X 42 #[.slice (some ⟨g, 0, none⟩) l0_0.length oc, .slice pa l0_1.length pc] := by rw [hW2, hX]; exact Blk.new _ _ _
  have hE2 : Ext w2 W2 := by rw [hW2]; exact (Ext.refl _).alloc _
  have hE3 : Ext w1 W2 := hx2.trans hE2
  have hM0 : Mv w1.heap.size 47 2 71 W2 g l0_0.length oc l0_0 (.slice pa l0_1.length pc) l0_1 ss1 0 :=
    ⟨ss, ho0.ext hE2, ho1.ext hE2, fun hg => hdj g (by simp [feet, Value.ownBlock]) hg, fun j s f _ hs hf1 hf2 => hdj f hf2 (feet_sub hs hf1)⟩
  have hgX : g < X := by rw [hX]; exact (ho0.foot g (by simp [feet, Value.ownBlock])).2
  have hXa : w1.heap.size ≤ X := by rw [hX]; exact hz2
  have CK0 := hK0.cell
  have HX := Lib.hid hX; have HW2 := Lib.hid hW2
  clear hX hW2 ho0 ho1 hdj hx2 hcp1 hpc1 hl0 hl1 hz2
  go_wp2_with fail
  rw [← HW2.out, ← HX.out]
  clear HW2 HX
  go_loopw [19] (fun i wr => ∃ k : Nat, k ≤ l0_1.length ∧ i = .int .i64 k ∧ Ext w1 wr ∧ Blk wr X 42 #[.slice (some ⟨g, 0, none⟩) l0_0.length oc, .slice pa l0_1.length pc] ∧ Mv w1.heap.size 47 2 71 wr g l0_0.length oc (fallK false fates ⟨l0_0, l0_1⟩ k) (.slice pa l0_1.length pc) l0_1 ss1 k) (fun i _ => l0_1.length - (intOf i).toNat)
  case atStart => exact ⟨0, Nat.zero_le _, rfl, hE3, hK0, hM0⟩
  case round =>
    clear hK0 hM0 CK0 hE2 hE3 KR2
    obtain ⟨k, hk, rfl, he, hK, hM⟩ := hrel
    have hsz4 := he.size
    have hXq : X < wr.heap.size := hK.lt
    have hgq := hM.low
    have CK := hK.cell
    have FK := hK.frozen
    by_cases hlt : k < l0_1.length
    · obtain ⟨g1, cap1, cur1, s, d, hv, hB1, hg1, hr, hs, c0, c1, hrow⟩ := hM.wait hlt
      injection hv with hv1 hv2 hv3
      subst hv1; subst hv3
      obtain ⟨sa, sn, sc, rfl⟩ := hrow.shape
      obtain ⟨hd1, hd2, hd3⟩ := HR2.out d (List.mem_of_getElem? hr)
      obtain ⟨p, hp⟩ := Int.eq_ofNat_of_zero_le hd2
      have HPD := Lib.hid hp
      have hp0 : (0 : Int) ≤ (p : Int) := by omega
      have hp1 : (p : Int) < (l0_0.length : Int) := by omega
      have hl1 := hB1.lt
      have d0 : wr.cell? ⟨g1, k * 2, none⟩ = some (.int .i64 (p : Int)) := by rw [hB1.cell, c0, hp]
      have d1 : wr.cell? ⟨g1, k * 2 + 1, none⟩ = some (.slice sa sn sc) := by rw [hB1.cell, c1]
      obtain ⟨cur2, ssk, hn, hGq, hsk, hcur⟩ := hM.blk (by rw [fallK_len]; exact hk1)
      have hfl := fallK_len true [] ⟨l0_0, l0_1⟩ k
      simp only [] at hfl
      obtain ⟨rr, hrr⟩ : ∃ rr, (fallK false fates ⟨l0_0, l0_1⟩ k)[p]? = some rr := ⟨_, List.getElem?_eq_getElem (by omega)⟩
      obtain ⟨so, hso⟩ : ∃ so, ssk[p]? = some so := ⟨_, List.getElem?_eq_getElem (by omega)⟩
      obtain ⟨hcp, hrw2⟩ := hcur p rr so hrr hso
      obtain ⟨ra, rn, rc, rfl⟩ := hrw2.shape
      have hrl := HOK.out k rr (List.mem_of_getElem? hrr)
      have HRR := Lib.hid hrr
      have e9 : wr.cell? ⟨g, p, none⟩ = some (.slice ra rn rc) := by rw [hGq.cell]; exact hcp
      have FG := hGq.frozen
      have HR := Lib.hid hr; have HS := Lib.hid hs
      clear hr hs c0 c1 hd2 hd3 hp hn hsk hcur hrr hso hcp hfl hXa
      by_cases hf : k < fates.length
      · obtain ⟨x, b2, o2, hx, rfl, hb2, cx⟩ := HC.out k hf
        have dx := (hE1.trans he).cell cx
        have hb3 : b2 < wr.heap.size := by have := hE1.size; omega
        have hfx : fate fates k = x := by simp [fate, hx]
        have HFX := Lib.hid hfx
        clear hx cx hfx
        by_cases h1 : x = 1
        · subst h1
          go_wp2_with fail
          go_roundw
          case rel =>
            refine ⟨k + 1, by omega, by go_num, (Ext.setCell he (by omega) _).alloc _, (hK.far (by simp; omega) _).alloc _, ?_⟩
            rw [fallK_succ HR.out]
            unfold fallStep
            rw [if_pos (by simp [HFX.out])]
            have hpn : d.At.toNat = p := by rw [HPD.out]; rfl
            rw [hpn]
            exact (hM.move HS.out HR.out (by rw [fallK_len]; simp only []; omega)).ext ((Ext.refl _).alloc _)
          case measure => simp [intOf]; omega
        · by_cases h2 : x = 2
          · subst h2
            obtain ⟨wq, hwq⟩ : ∃ wq, wq = wr.alloc (.cells #[.int .i64 (p : Int), .slice sa sn sc] 71) := ⟨_, rfl⟩
            have hEq : Ext wr wq := by rw [hwq]; exact (Ext.refl _).alloc _
            have hsq : wq.heap.size = wr.heap.size + 1 := by rw [hwq]; simp
            have hBq : Blk wq wr.heap.size 71 #[.int .i64 (p : Int), .slice sa sn sc] := by rw [hwq]; exact Blk.new _ _ _
            have hKq := hK.ext hEq
            have hMq := hM.ext hEq
            have hin' := hrow.ints.ext hEq
            have e8 : wq.cell? ⟨g, p, none⟩ = some (.slice ra rn rc) := hEq.cell e9
            have HW := Lib.hid hwq
            clear hwq
            go_wp2_with fail
            rw [← HW.out]
            obtain ⟨Y, hY⟩ : ∃ Y, Y = wr.heap.size := ⟨_, rfl⟩
            rw [← hY] at hBq hXq hgq hsq hsz4
            simp only [← hY]
            have hsr : Y < wq.heap.size := by omega
            have hE9 : Ext w1 wq := he.trans hEq
            clear hY hsq HW d0 d1
            go_region_held3 (fun w' => w'.cell? ⟨X, 0, none⟩ = some (.slice (some ⟨g, 0, none⟩) l0_0.length oc) ∧ w'.cell? ⟨Y, 0, none⟩ = some (.int .i64 (p : Int)) ∧ w'.cell? ⟨Y, 1, none⟩ = some (.slice sa sn sc) ∧ w'.cell? ⟨g, p, none⟩ = some (.slice ra rn rc)) (first | (refine ⟨((hKq.ext ?_).cell 0).trans (by simp), ((hBq.ext ?_).cell 0).trans (by simp), ((hBq.ext ?_).cell 1).trans (by simp), Ext.cell (w := wq) ?_ e8⟩ <;> (repeat' (first | (with_reducible exact Ext.refl _) | (with_reducible assumption) | (with_reducible refine Ext.drewN ?_ _) | (with_reducible refine Ext.drew ?_) | (with_reducible refine Ext.alloc ?_ _) | (with_reducible refine Ext.setCell ?_ ?_ _) | (with_reducible refine Ext.setRow ?_ ?_ _) | (with_reducible exact Nat.le_refl _) | (with_reducible refine Ext.trans ?_ (by assumption)) | omega)); done)) (first | (go_at_call 31; refine (torn_c _ _ _ _ _ (hin'.ext (by repeat' (first | (with_reducible exact Ext.refl _) | (with_reducible assumption) | (with_reducible refine Ext.drewN ?_ _) | (with_reducible refine Ext.drew ?_) | (with_reducible refine Ext.alloc ?_ _) | (with_reducible refine Ext.setCell ?_ ?_ _) | (with_reducible refine Ext.setRow ?_ ?_ _) | (with_reducible exact Nat.le_refl _) | (with_reducible refine Ext.trans ?_ (by assumption)) | omega))) (hrw2.ints.ext (hEq.trans (by repeat' (first | (with_reducible exact Ext.refl _) | (with_reducible assumption) | (with_reducible refine Ext.drewN ?_ _) | (with_reducible refine Ext.drew ?_) | (with_reducible refine Ext.alloc ?_ _) | (with_reducible refine Ext.setCell ?_ ?_ _) | (with_reducible refine Ext.setRow ?_ ?_ _) | (with_reducible exact Nat.le_refl _) | (with_reducible refine Ext.trans ?_ (by assumption)) | omega)))) (by omega) (by omega)).mono ?_; rintro e w2 ⟨_, rfl, hx2, g2⟩; obtain ⟨ta, tn, tc, rfl⟩ := g2.shape))
            all_goals
              have KX2 : Blk w2 X 42 _ := hKq.ext (by repeat' (first | (with_reducible exact Ext.refl _) | (with_reducible assumption) | (with_reducible refine Ext.drewN ?_ _) | (with_reducible refine Ext.drew ?_) | (with_reducible refine Ext.alloc ?_ _) | (with_reducible refine Ext.setCell ?_ ?_ _) | (with_reducible refine Ext.setRow ?_ ?_ _) | (with_reducible exact Nat.le_refl _) | (with_reducible refine Ext.trans ?_ (by assumption)) | omega))
              have KY2 : Blk w2 Y 71 _ := hBq.ext (by repeat' (first | (with_reducible exact Ext.refl _) | (with_reducible assumption) | (with_reducible refine Ext.drewN ?_ _) | (with_reducible refine Ext.drew ?_) | (with_reducible refine Ext.alloc ?_ _) | (with_reducible refine Ext.setCell ?_ ?_ _) | (with_reducible refine Ext.setRow ?_ ?_ _) | (with_reducible exact Nat.le_refl _) | (with_reducible refine Ext.trans ?_ (by assumption)) | omega))
              have CX2 := KX2.cell; have CY2 := KY2.cell
              have E9 : w2.cell? ⟨g, p, none⟩ = some (.slice ra rn rc) := Ext.cell (w := wq) (by repeat' (first | (with_reducible exact Ext.refl _) | (with_reducible assumption) | (with_reducible refine Ext.drewN ?_ _) | (with_reducible refine Ext.drew ?_) | (with_reducible refine Ext.alloc ?_ _) | (with_reducible refine Ext.setCell ?_ ?_ _) | (with_reducible refine Ext.setRow ?_ ?_ _) | (with_reducible exact Nat.le_refl _) | (with_reducible refine Ext.trans ?_ (by assumption)) | omega)) e8
              have FG2 : w2.frozen? ⟨g, p, none⟩ = false := (Blk.ext (hGq.ext hEq) (by repeat' (first | (with_reducible exact Ext.refl _) | (with_reducible assumption) | (with_reducible refine Ext.drewN ?_ _) | (with_reducible refine Ext.drew ?_) | (with_reducible refine Ext.alloc ?_ _) | (with_reducible refine Ext.setCell ?_ ?_ _) | (with_reducible refine Ext.setRow ?_ ?_ _) | (with_reducible exact Nat.le_refl _) | (with_reducible refine Ext.trans ?_ (by assumption)) | omega) : Ext wq w2)).frozen _
              go_wp2_with fail
              go_roundw
              case rel =>
                have hM2 := hMq.fresh (w := w2) (by repeat' (first | (with_reducible exact Ext.refl _) | (with_reducible assumption) | (with_reducible refine Ext.drewN ?_ _) | (with_reducible refine Ext.drew ?_) | (with_reducible refine Ext.alloc ?_ _) | (with_reducible refine Ext.setCell ?_ ?_ _) | (with_reducible refine Ext.setRow ?_ ?_ _) | (with_reducible exact Nat.le_refl _) | (with_reducible refine Ext.trans ?_ (by assumption)) | omega)) (g2.mono (Nat.le_refl _)) (by omega) (p := p) (by rw [fallK_len]; simp only []; omega)
                refine ⟨k + 1, by omega, by go_num, Ext.setCell (by repeat' (first | (with_reducible exact Ext.refl _) | (with_reducible assumption) | (with_reducible refine Ext.drewN ?_ _) | (with_reducible refine Ext.drew ?_) | (with_reducible refine Ext.alloc ?_ _) | (with_reducible refine Ext.setCell ?_ ?_ _) | (with_reducible refine Ext.setRow ?_ ?_ _) | (with_reducible exact Nat.le_refl _) | (with_reducible refine Ext.trans ?_ (by assumption)) | omega)) (by omega) _, KX2.far (by simp; omega) _, ?_⟩
                rw [fallK_succ HR.out]
                unfold fallStep
                rw [if_neg (by simp [HFX.out]), if_pos HFX.out]
                have hpn : d.At.toNat = p := by rw [HPD.out]; rfl
                rw [hpn, HRR.out]
                exact hM2
              case measure => simp [intOf]; omega
          · go_wp2_with fail
            go_roundw
            case rel =>
              refine ⟨k + 1, by omega, by go_num, he.alloc _, hK.alloc _, ?_⟩
              rw [fallK_succ HR.out]
              unfold fallStep
              rw [if_neg (by simp [HFX.out, h1]), if_neg (by rw [HFX.out]; exact h2)]
              exact hM.skip.ext ((Ext.refl _).alloc _)
            case measure => simp [intOf]; omega
      · have hfx : fate fates k = 0 := by simp [fate, List.getElem?_eq_none (Nat.le_of_not_lt hf)]
        have HFX := Lib.hid hfx
        clear hfx
        go_wp2_with fail
        go_roundw
        case rel =>
          refine ⟨k + 1, by omega, by go_num, he.alloc _, hK.alloc _, ?_⟩
          rw [fallK_succ HR.out]
          unfold fallStep
          rw [if_neg (by simp [HFX.out]), if_neg (by rw [HFX.out]; decide)]
          exact hM.skip.ext ((Ext.refl _).alloc _)
        case measure => simp [intOf]; omega
    · obtain rfl : k = l0_1.length := by omega
      have KR3 := KR1.ext he
      have CR3 := KR3.cell
      have FR3 := KR3.frozen
      go_wp2_with fail
      refine bodyPost_ret (by simp [results, Try.results13, go_sem, *]; try rfl) rfl ?_
      obtain ⟨ss2, h2, _, _, _⟩ := hM
      refine ⟨_, rfl, by repeat' (first | (with_reducible exact Ext.refl _) | (with_reducible assumption) | (with_reducible refine Ext.drewN ?_ _) | (with_reducible refine Ext.drew ?_) | (with_reducible refine Ext.alloc ?_ _) | (with_reducible refine Ext.setCell ?_ ?_ _) | (with_reducible refine Ext.setRow ?_ ?_ _) | (with_reducible exact Nat.le_refl _) | (with_reducible refine Ext.trans ?_ (by assumption)) | omega), IsDisk.cast ⟨_, _, ss2, [], rfl, OwnNs.mono (B := w1.heap.size) ?_ (by omega), OwnNs.nil _ _ _ _ _, by simp [feet, Value.ownBlock]⟩ (by simp [fallenDisk, hb]; rfl)⟩
      have hc1 : w.heap.size + 1 < w1.heap.size := by omega
      first
        | exact ((h2.box hK (by decide) (by decide) _ _).keep (((Chg.refl w1.heap.size _).setLow hc1 _).setLow hc1 _))
        | exact (h2.keep (((Chg.refl w1.heap.size _).setLow hc1 _).setLow hc1 _)).box ((hK.far (by simp; omega) _).far (by simp; omega) _) (by decide) (by decide) _ _
        | (trace_state; fail)

end Go.Proofs.Ytohoemphmghblaa
