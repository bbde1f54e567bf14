/- WipedSlot. -/
import Derived.Test.YtghfklophkekjaaQ7
import Derived.Test.YtghfklophkekjaaKD
set_option linter.unusedSimpArgs false
set_option linter.unusedVariables false
namespace Go.Proofs.Ytghfklophkekjaa
open Go.RowKit Go.G8

end Go.Proofs.Ytghfklophkekjaa
namespace Go.G8
open Go.RowKit
def wipeK (K : List (List Int)) (s : Nat) : Nat → List (List Int)
  | 0 => K
  | k + 1 => (wipeK K s k).set (s + k) []
theorem wipeK_len (K : List (List Int)) (s k : Nat) : (wipeK K s k).length = K.length := by
  induction k with
  | zero => rfl
  | succ k ih => simp [wipeK, ih]
def wipedSlot (d : DDisk) (c : Int) : DDisk := if shelfOk d then (if c = 0 ∨ c = 1 then ⟨wipeK (fallK true [] d d.Wait.length) (c * 4).toNat 4, []⟩ else d) else ⟨[], []⟩
theorem OwnNs.apart {B B' : Nat} {e e1 e2 e3 : TypeId} {n m : Nat} {w : World} {v v1 : Value} {rows rows1 : List NRow} {ss : List Value} (h : OwnNs B e e1 n w v rows ss) (h1 : OwnNs B' e2 e3 m w v1 rows1 []) (n1 : e2 ≠ e) (n2 : e2 ≠ e1) : ∀ k, k ∈ feet (v :: ss) → k ∈ feet [v1] → False := by
  intro k hk hk1
  simp only [feet, List.mem_filterMap] at hk1
  obtain ⟨u, hu, hf⟩ := hk1
  simp at hu; subst hu
  obtain ⟨cur, hb⟩ := Own.typed h1.2.2.1 hf
  exact h.no hb n1 n2 hk
end Go.G8
namespace Go.Proofs.Ytghfklophkekjaa
open Go.RowKit Go.G8
theorem l18Slot_c (w : World) (c : Int) : Calls Try.prog 53 #[.int .i64 c] w (fun e w' => e = .returned (.bool (decide (c = 0 ∨ c = 1))) ∧ w = w') := by
  by_cases h0 : c = 0
  · go_enter Try.func53, Try.ntmps53
    go_wp2
    all_goals (go_ret; exact ⟨by by_cases h1 : c = 1 <;> simp [h0, h1], rfl⟩)
  · go_enter Try.func53, Try.ntmps53
    go_wp2
    all_goals (go_ret; exact ⟨by by_cases h1 : c = 1 <;> simp [h0, h1], rfl⟩)
theorem slotOk_c (w : World) (c : Int) : Calls Try.prog 56 #[.int .i64 c] w (fun e w' => e = .returned (.bool (decide (c = 0 ∨ c = 1))) ∧ w = w') := by
  by_cases h0 : c = 0
  · go_enter Try.func56, Try.ntmps56
    go_wp2
    all_goals (go_ret; exact ⟨by by_cases h1 : c = 1 <;> simp [h0, h1], rfl⟩)
  · go_enter Try.func56, Try.ntmps56
    go_wp2
    all_goals (go_ret; exact ⟨by by_cases h1 : c = 1 <;> simp [h0, h1], rfl⟩)
set_option maxHeartbeats 4000000 in
set_option maxRecDepth 100000 in
theorem sWipedSlot_c (w : World) (s0_0 : Value) (l0_0 : List (List Int)) (s0_1 : Value) (l0_1 : List DWrite) (c1_0 : Int) (h0_0 : Nest 0 w s0_0 (nestInt64S l0_0)) (h0_1 : Nest 1 w s0_1 (nestWrite l0_1)) :
    Calls Try.prog 24 #[.agg #[s0_0, s0_1], .int .i64 c1_0] w (Ret w fun r0 w' => IsDisk w.heap.size w' r0 (wipedSlot ⟨l0_0, l0_1⟩ c1_0)) := by
  obtain ⟨a0, n0, k0, rfl⟩ := h0_0.shape
  obtain ⟨a1, n1, k1, rfl⟩ := h0_1.shape
  obtain ⟨W0, hW0⟩ : ∃ W0, W0 = (w.alloc (.cells #[.slice a0 n0 k0, .slice a1 n1 k1] 30)).alloc (.cells #[.slice none 0 0, .slice none 0 0] 30) := ⟨_, rfl⟩
  have hE0 : Ext w W0 := by rw [hW0]; exact ((Ext.refl _).alloc _).alloc _
  have hs0 : W0.heap.size = w.heap.size + 1 + 1 := by rw [hW0]; simp
  have KR0 : Blk W0 (w.heap.size + 1) 30 #[.slice none 0 0, .slice none 0 0] := by rw [hW0]; exact Blk.new2 _ _ _ _
  have KP0 : Blk W0 w.heap.size 30 #[.slice a0 n0 k0, .slice a1 n1 k1] := by rw [hW0]; exact (Blk.new _ _ _).alloc _
  have HW0 := Lib.hid hW0
  clear hW0
  go_enter Try.func24, Try.ntmps24
  go_wp2_with fail
  rw [← HW0.out]
  refine (sShelfOk_c _ _ _ _ _ (h0_0.ext hE0) (h0_1.ext hE0)).mono ?_
  rintro e w1 ⟨rfl, hx1⟩
  have hz1 := hx1.size; have KR1 := KR0.ext hx1; have KP1 := KP0.ext hx1; have CR1 := KR1.cell; have FR1 := KR1.frozen; have CP1 := KP1.cell
  have hE1 : Ext w w1 := hE0.trans hx1
  cases hb : shelfOk ⟨l0_0, l0_1⟩
  · go_wp2_with fail
    refine bodyPost_ret (by simp [results, Try.results24, go_sem, *]; try rfl) rfl ?_
    refine ⟨_, rfl, ?_, (IsDisk.nil _ _).cast (by simp [wipedSlot, hb])⟩
    exact Ext.setCell (Ext.setCell hE1 (by omega) _) (by omega) _
  have hdo := shelfOk_disk hb
  by_cases hc : c1_0 = 0 ∨ c1_0 = 1
  rotate_left
  · go_wp2_with (first | (go_at_call 53; refine (l18Slot_c _ _).mono ?_; rintro e ws ⟨rfl, rfl⟩))
    refine (l3Copy_c _ _ l0_0 _ l0_1 (h0_0.ext hE1) (h0_1.ext hE1) (diskOk_small hdo)).mono ?_
    rintro e w2 ⟨_, rfl, hx2, hd⟩
    obtain ⟨b0, m0, j0, b1, m1, j1, rfl⟩ := hd.shape
    have KR2 := KR1.ext hx2; have CR2 := KR2.cell; have FR2 := KR2.frozen; have hz2 := hx2.size
    go_wp2_with fail
    refine bodyPost_ret (by simp [results, Try.results24, go_sem, *]; try rfl) rfl ?_
    refine ⟨_, rfl, ?_, IsDisk.cast (IsDisk.mono (IsDisk.keep hd (((Chg.refl _ _).setLow (by omega) _).setLow (by omega) _)) (by omega)) (by simp [wipedSlot, hb, hc])⟩
    exact Ext.setCell (Ext.setCell (hE1.trans hx2) (by omega) _) (by omega) _
  go_wp2_with (first | (go_at_call 53; refine (l18Slot_c _ _).mono ?_; rintro e ws ⟨rfl, rfl⟩))
  refine (sSynced_c _ _ l0_0 _ l0_1 (h0_0.ext hE1) (h0_1.ext hE1)).mono ?_
  rintro e w2 ⟨_, rfl, hx2, hd⟩
  rw [show fallenDisk true [] ⟨l0_0, l0_1⟩ = (⟨fallK true [] ⟨l0_0, l0_1⟩ l0_1.length, []⟩ : DDisk) by simp [fallenDisk, hdo]] at hd
  have hw : wipedSlot ⟨l0_0, l0_1⟩ c1_0 = ⟨wipeK (fallK true [] ⟨l0_0, l0_1⟩ l0_1.length) (c1_0 * 4).toNat 4, []⟩ := by simp [wipedSlot, hb, hc]
  have hKl : (fallK true [] ⟨l0_0, l0_1⟩ l0_1.length).length = 8 := by
    rw [fallK_len]
    simp only [shelfOk, Bool.and_eq_true, decide_eq_true_eq] at hb
    exact hb.2
  generalize fallK true [] ⟨l0_0, l0_1⟩ l0_1.length = KK at hd hKl hw
  have HWS := Lib.hid hw
  clear hw
  obtain ⟨t0, t1, ss, ss1, rfl, ho0, ho1, hdj⟩ := hd
  have ho0 : OwnNs w1.heap.size 85 2 0 w2 t0 (nestInt64S KK) ss := ho0
  have ho1 : OwnNs w1.heap.size 93 2 1 w2 t1 (nestWrite []) ss1 := ho1
  have hl0 : (nestInt64S KK).length = 8 := by simp [nestInt64S, hKl]
  obtain rfl : ss1 = [] := List.eq_nil_of_length_eq_zero (by rw [ho1.2.1]; rfl)
  obtain ⟨g, oc, cur, rfl, hcp1, hcp2, hBg, _, _⟩ := ho0.open_ (by omega)
  obtain ⟨pa, pc, rfl, hpc1, hpc2⟩ := ho1.len
  have hl1 : (nestWrite ([] : List DWrite)).length = 0 := rfl
  rw [hl0] at ho0 hdj ⊢
  rw [hl1] at ho1 hdj ⊢
  clear hl1
  have KR2 := KR1.ext hx2
  have hz2 := hx2.size
  obtain ⟨X, hX⟩ : ∃ X, X = w2.heap.size := ⟨_, rfl⟩
  obtain ⟨W2, hW2⟩ : ∃ W2, W2 = w2.alloc (.cells #[.slice (some ⟨g, 0, none⟩) 8 oc, .slice pa 0 pc] 30) := ⟨_, rfl⟩
  have hK0 : Blk W2 X 30 #[.slice (some ⟨g, 0, none⟩) 8 oc, .slice pa 0 pc] := by rw [hW2, hX]; exact Blk.new _ _ _
  have hE2 : Ext w2 W2 := by rw [hW2]; exact (Ext.refl _).alloc _
  have hE3 : Ext w1 W2 := hx2.trans hE2
  have hM0 : Mv w1.heap.size 85 2 93 W2 g 8 oc (wipeK KK (c1_0 * 4).toNat 0) (.slice pa 0 pc) [] [] 0 :=
    ⟨ss, ho0.ext hE2, ho1.ext hE2, fun hg => hdj g (by simp [feet, Value.ownBlock]) hg, fun j s f _ hs => by simp at hs⟩
  have hgX : g < X := by rw [hX]; exact (ho0.foot g (by simp [feet, Value.ownBlock])).2
  have hXa : w1.heap.size ≤ X := by rw [hX]; exact hz2
  have CK0 := hK0.cell
  have HX := Lib.hid hX; have HW2 := Lib.hid hW2
  clear hX hW2 ho0 ho1 hdj hx2 hcp1 hpc1 hl0 hz2
  rcases hc with rfl | rfl
  · have hs : ((0 : Int) * 4).toNat = 0 := rfl
    rw [hs] at hM0
    have hw := HWS.out
    rw [hs] at hw
    have HWS := Lib.hid hw
    clear hs hw
    go_wp2_with fail
    rw [← HW2.out, ← HX.out]
    clear HW2 HX
    go_loopw [6] (fun i wr => ∃ k : Nat, k ≤ 4 ∧ i = .int .i64 (k : Int) ∧ Ext w1 wr ∧ Blk wr X 30 #[.slice (some ⟨g, 0, none⟩) 8 oc, .slice pa 0 pc] ∧ Mv w1.heap.size 85 2 93 wr g 8 oc (wipeK KK 0 k) (.slice pa 0 pc) [] [] k) (fun i _ => 4 - (intOf i).toNat)
    case atStart => exact ⟨0, by omega, rfl, hE3, hK0, hM0⟩
    case round =>
      clear hK0 hM0 CK0 hE2 hE3 KR2
      obtain ⟨k, hk, rfl, he, hK, hM⟩ := hrel
      have hsz4 := he.size
      have hXq : X < wr.heap.size := hK.lt
      have hgq := hM.low
      have CK := hK.cell
      have FK := hK.frozen
      by_cases hlt : k < 4
      · obtain ⟨cur2, ssk, hn, hGq, hsk, hcur⟩ := hM.blk (by rw [wipeK_len]; omega)
        have hfl := wipeK_len KK 0 k
        have hkl : 0 + k < 8 := by omega
        obtain ⟨rr, hrr⟩ : ∃ rr, (wipeK KK 0 k)[0 + k]? = some rr := ⟨_, List.getElem?_eq_getElem (by omega)⟩
        obtain ⟨so, hso⟩ : ∃ so, ssk[0 + k]? = some so := ⟨_, List.getElem?_eq_getElem (by omega)⟩
        have e9 : wr.cell? ⟨g, 0 + k, none⟩ = some so := by rw [hGq.cell]; exact (hcur _ rr so hrr hso).1
        have FG := hGq.frozen
        clear hn hsk hcur hrr hso hfl hGq
        rw [show 0 + k = k by omega] at e9
        go_wp2_with fail
        go_roundw
        case rel =>
          rw [← World.setCell_alloc_past _ _ _ _ hgq.2]
          refine ⟨k + 1, by omega, by first | go_num | (simp; omega), Ext.setCell (he.alloc _) (by omega) _, (hK.alloc _).far (by simp; omega) _, ?_⟩
          show Mv _ _ _ _ _ _ _ _ ((wipeK KK 0 k).set (0 + k) []) _ _ _ _
          rw [show 0 + k = k by omega]
          exact hM.fresh ((Ext.refl _).alloc _) (show OwnI wr.heap.size 2 1 (wr.alloc (.cells #[] 2)) (.slice (some ⟨wr.heap.size, 0, none⟩) 0 0) [] from Own.fresh wr 2 1) (by omega) (by rw [wipeK_len]; omega)
        case measure => simp [intOf]; omega
      · obtain rfl : k = 4 := by omega
        have KR3 := KR1.ext he
        have CR3 := KR3.cell
        have FR3 := KR3.frozen
        go_wp2_with fail
        refine bodyPost_ret (by simp [results, Try.results24, go_sem, *]; try rfl) rfl ?_
        obtain ⟨ss2, h2, h3, _, _⟩ := hM
        have hc1 : w.heap.size + 1 < w1.heap.size := by omega
        refine ⟨_, rfl, by repeat' (first | (with_reducible exact Ext.refl _) | (with_reducible assumption) | (with_reducible refine Ext.drewN ?_ _) | (with_reducible refine Ext.drew ?_) | (with_reducible refine Ext.alloc ?_ _) | (with_reducible refine Ext.setCell ?_ ?_ _) | (with_reducible refine Ext.setRow ?_ ?_ _) | (with_reducible exact Nat.le_refl _) | (with_reducible refine Ext.trans ?_ (by assumption)) | omega), IsDisk.cast ⟨_, _, ss2, [], rfl, OwnNs.mono (B := w1.heap.size) (h2.keep (((Chg.refl w1.heap.size _).setLow hc1 _).setLow hc1 _)) (by omega), OwnNs.mono (B := w1.heap.size) (h3.keep (((Chg.refl w1.heap.size _).setLow hc1 _).setLow hc1 _)) (by omega), h2.apart h3 (by decide) (by decide)⟩ HWS.out.symm⟩
  · have hs : ((1 : Int) * 4).toNat = 4 := rfl
    rw [hs] at hM0
    have hw := HWS.out
    rw [hs] at hw
    have HWS := Lib.hid hw
    clear hs hw
    go_wp2_with fail
    rw [← HW2.out, ← HX.out]
    clear HW2 HX
    go_loopw [6] (fun i wr => ∃ k : Nat, k ≤ 4 ∧ i = .int .i64 (k : Int) ∧ Ext w1 wr ∧ Blk wr X 30 #[.slice (some ⟨g, 0, none⟩) 8 oc, .slice pa 0 pc] ∧ Mv w1.heap.size 85 2 93 wr g 8 oc (wipeK KK 4 k) (.slice pa 0 pc) [] [] k) (fun i _ => 4 - (intOf i).toNat)
    case atStart => exact ⟨0, by omega, rfl, hE3, hK0, hM0⟩
    case round =>
      clear hK0 hM0 CK0 hE2 hE3 KR2
      obtain ⟨k, hk, rfl, he, hK, hM⟩ := hrel
      have hsz4 := he.size
      have hXq : X < wr.heap.size := hK.lt
      have hgq := hM.low
      have CK := hK.cell
      have FK := hK.frozen
      by_cases hlt : k < 4
      · obtain ⟨cur2, ssk, hn, hGq, hsk, hcur⟩ := hM.blk (by rw [wipeK_len]; omega)
        have hfl := wipeK_len KK 4 k
        have hkl : 4 + k < 8 := by omega
        obtain ⟨rr, hrr⟩ : ∃ rr, (wipeK KK 4 k)[4 + k]? = some rr := ⟨_, List.getElem?_eq_getElem (by omega)⟩
        obtain ⟨so, hso⟩ : ∃ so, ssk[4 + k]? = some so := ⟨_, List.getElem?_eq_getElem (by omega)⟩
        have e9 : wr.cell? ⟨g, 4 + k, none⟩ = some so := by rw [hGq.cell]; exact (hcur _ rr so hrr hso).1
        have FG := hGq.frozen
        clear hn hsk hcur hrr hso hfl hGq
        rw [show 4 + k = (4 + k) by omega] at e9
        go_wp2_with fail
        go_roundw
        case rel =>
          rw [← World.setCell_alloc_past _ _ _ _ hgq.2]
          refine ⟨k + 1, by omega, by first | go_num | (simp; omega), Ext.setCell (he.alloc _) (by omega) _, (hK.alloc _).far (by simp; omega) _, ?_⟩
          show Mv _ _ _ _ _ _ _ _ ((wipeK KK 4 k).set (4 + k) []) _ _ _ _
          rw [show 4 + k = (4 + k) by omega]
          exact hM.fresh ((Ext.refl _).alloc _) (show OwnI wr.heap.size 2 1 (wr.alloc (.cells #[] 2)) (.slice (some ⟨wr.heap.size, 0, none⟩) 0 0) [] from Own.fresh wr 2 1) (by omega) (by rw [wipeK_len]; omega)
        case measure => simp [intOf]; omega
      · obtain rfl : k = 4 := by omega
        have KR3 := KR1.ext he
        have CR3 := KR3.cell
        have FR3 := KR3.frozen
        go_wp2_with fail
        refine bodyPost_ret (by simp [results, Try.results24, go_sem, *]; try rfl) rfl ?_
        obtain ⟨ss2, h2, h3, _, _⟩ := hM
        have hc1 : w.heap.size + 1 < w1.heap.size := by omega
        refine ⟨_, rfl, by repeat' (first | (with_reducible exact Ext.refl _) | (with_reducible assumption) | (with_reducible refine Ext.drewN ?_ _) | (with_reducible refine Ext.drew ?_) | (with_reducible refine Ext.alloc ?_ _) | (with_reducible refine Ext.setCell ?_ ?_ _) | (with_reducible refine Ext.setRow ?_ ?_ _) | (with_reducible exact Nat.le_refl _) | (with_reducible refine Ext.trans ?_ (by assumption)) | omega), IsDisk.cast ⟨_, _, ss2, [], rfl, OwnNs.mono (B := w1.heap.size) (h2.keep (((Chg.refl w1.heap.size _).setLow hc1 _).setLow hc1 _)) (by omega), OwnNs.mono (B := w1.heap.size) (h3.keep (((Chg.refl w1.heap.size _).setLow hc1 _).setLow hc1 _)) (by omega), h2.apart h3 (by decide) (by decide)⟩ HWS.out.symm⟩
set_option maxHeartbeats 4000000 in
set_option maxRecDepth 100000 in
theorem wipedSlot_c (w : World) (s0_0 : Value) (l0_0 : List (List Int)) (s0_1 : Value) (l0_1 : List DWrite) (c1_0 : Int) (h0_0 : Nest 0 w s0_0 (nestInt64S l0_0)) (h0_1 : Nest 1 w s0_1 (nestWrite l0_1)) :
    Calls Try.prog 25 #[.agg #[s0_0, s0_1], .int .i64 c1_0] w (Ret w fun r0 w' => IsDisk w.heap.size w' r0 (wipedSlot ⟨l0_0, l0_1⟩ c1_0)) := by
  obtain ⟨a0, n0, k0, rfl⟩ := h0_0.shape
  obtain ⟨a1, n1, k1, rfl⟩ := h0_1.shape
  obtain ⟨W0, hW0⟩ : ∃ W0, W0 = (w.alloc (.cells #[.slice a0 n0 k0, .slice a1 n1 k1] 30)).alloc (.cells #[.slice none 0 0, .slice none 0 0] 30) := ⟨_, rfl⟩
  have hE0 : Ext w W0 := by rw [hW0]; exact ((Ext.refl _).alloc _).alloc _
  have hs0 : W0.heap.size = w.heap.size + 1 + 1 := by rw [hW0]; simp
  have KR0 : Blk W0 (w.heap.size + 1) 30 #[.slice none 0 0, .slice none 0 0] := by rw [hW0]; exact Blk.new2 _ _ _ _
  have KP0 : Blk W0 w.heap.size 30 #[.slice a0 n0 k0, .slice a1 n1 k1] := by rw [hW0]; exact (Blk.new _ _ _).alloc _
  have HW0 := Lib.hid hW0
  clear hW0
  go_enter Try.func25, Try.ntmps25
  go_wp2_with fail
  rw [← HW0.out]
  refine (shelfOk_c _ _ _ _ _ (h0_0.ext hE0) (h0_1.ext hE0)).mono ?_
  rintro e w1 ⟨rfl, hx1⟩
  have hz1 := hx1.size; have KR1 := KR0.ext hx1; have KP1 := KP0.ext hx1; have CR1 := KR1.cell; have FR1 := KR1.frozen; have CP1 := KP1.cell
  have hE1 : Ext w w1 := hE0.trans hx1
  cases hb : shelfOk ⟨l0_0, l0_1⟩
  · go_wp2_with fail
    refine bodyPost_ret (by simp [results, Try.results25, go_sem, *]; try rfl) rfl ?_
    refine ⟨_, rfl, ?_, (IsDisk.nil _ _).cast (by simp [wipedSlot, hb])⟩
    exact Ext.setCell (Ext.setCell hE1 (by omega) _) (by omega) _
  have hdo := shelfOk_disk hb
  by_cases hc : c1_0 = 0 ∨ c1_0 = 1
  rotate_left
  · go_wp2_with (first | (go_at_call 56; refine (slotOk_c _ _).mono ?_; rintro e ws ⟨rfl, rfl⟩))
    refine (copyDisk_c _ _ l0_0 _ l0_1 (h0_0.ext hE1) (h0_1.ext hE1) (diskOk_small hdo)).mono ?_
    rintro e w2 ⟨_, rfl, hx2, hd⟩
    obtain ⟨b0, m0, j0, b1, m1, j1, rfl⟩ := hd.shape
    have KR2 := KR1.ext hx2; have CR2 := KR2.cell; have FR2 := KR2.frozen; have hz2 := hx2.size
    go_wp2_with fail
    refine bodyPost_ret (by simp [results, Try.results25, go_sem, *]; try rfl) rfl ?_
    refine ⟨_, rfl, ?_, IsDisk.cast (IsDisk.mono (IsDisk.keep hd (((Chg.refl _ _).setLow (by omega) _).setLow (by omega) _)) (by omega)) (by simp [wipedSlot, hb, hc])⟩
    exact Ext.setCell (Ext.setCell (hE1.trans hx2) (by omega) _) (by omega) _
  go_wp2_with (first | (go_at_call 56; refine (slotOk_c _ _).mono ?_; rintro e ws ⟨rfl, rfl⟩))
  refine (synced_c _ _ l0_0 _ l0_1 (h0_0.ext hE1) (h0_1.ext hE1)).mono ?_
  rintro e w2 ⟨_, rfl, hx2, hd⟩
  rw [show fallenDisk true [] ⟨l0_0, l0_1⟩ = (⟨fallK true [] ⟨l0_0, l0_1⟩ l0_1.length, []⟩ : DDisk) by simp [fallenDisk, hdo]] at hd
  have hw : wipedSlot ⟨l0_0, l0_1⟩ c1_0 = ⟨wipeK (fallK true [] ⟨l0_0, l0_1⟩ l0_1.length) (c1_0 * 4).toNat 4, []⟩ := by simp [wipedSlot, hb, hc]
  have hKl : (fallK true [] ⟨l0_0, l0_1⟩ l0_1.length).length = 8 := by
    rw [fallK_len]
    simp only [shelfOk, Bool.and_eq_true, decide_eq_true_eq] at hb
    exact hb.2
  generalize fallK true [] ⟨l0_0, l0_1⟩ l0_1.length = KK at hd hKl hw
  have HWS := Lib.hid hw
  clear hw
  obtain ⟨t0, t1, ss, ss1, rfl, ho0, ho1, hdj⟩ := hd
  have ho0 : OwnNs w1.heap.size 85 2 0 w2 t0 (nestInt64S KK) ss := ho0
  have ho1 : OwnNs w1.heap.size 93 2 1 w2 t1 (nestWrite []) ss1 := ho1
  have hl0 : (nestInt64S KK).length = 8 := by simp [nestInt64S, hKl]
  obtain rfl : ss1 = [] := List.eq_nil_of_length_eq_zero (by rw [ho1.2.1]; rfl)
  obtain ⟨g, oc, cur, rfl, hcp1, hcp2, hBg, _, _⟩ := ho0.open_ (by omega)
  obtain ⟨pa, pc, rfl, hpc1, hpc2⟩ := ho1.len
  have hl1 : (nestWrite ([] : List DWrite)).length = 0 := rfl
  rw [hl0] at ho0 hdj ⊢
  rw [hl1] at ho1 hdj ⊢
  clear hl1
  have KR2 := KR1.ext hx2
  have hz2 := hx2.size
  obtain ⟨X, hX⟩ : ∃ X, X = w2.heap.size := ⟨_, rfl⟩
  obtain ⟨W2, hW2⟩ : ∃ W2, W2 = w2.alloc (.cells #[.slice (some ⟨g, 0, none⟩) 8 oc, .slice pa 0 pc] 30) := ⟨_, rfl⟩
  have hK0 : Blk W2 X 30 #[.slice (some ⟨g, 0, none⟩) 8 oc, .slice pa 0 pc] := by rw [hW2, hX]; exact Blk.new _ _ _
  have hE2 : Ext w2 W2 := by rw [hW2]; exact (Ext.refl _).alloc _
  have hE3 : Ext w1 W2 := hx2.trans hE2
  have hM0 : Mv w1.heap.size 85 2 93 W2 g 8 oc (wipeK KK (c1_0 * 4).toNat 0) (.slice pa 0 pc) [] [] 0 :=
    ⟨ss, ho0.ext hE2, ho1.ext hE2, fun hg => hdj g (by simp [feet, Value.ownBlock]) hg, fun j s f _ hs => by simp at hs⟩
  have hgX : g < X := by rw [hX]; exact (ho0.foot g (by simp [feet, Value.ownBlock])).2
  have hXa : w1.heap.size ≤ X := by rw [hX]; exact hz2
  have CK0 := hK0.cell
  have HX := Lib.hid hX; have HW2 := Lib.hid hW2
  clear hX hW2 ho0 ho1 hdj hx2 hcp1 hpc1 hl0 hz2
  rcases hc with rfl | rfl
  · have hs : ((0 : Int) * 4).toNat = 0 := rfl
    rw [hs] at hM0
    have hw := HWS.out
    rw [hs] at hw
    have HWS := Lib.hid hw
    clear hs hw
    go_wp2_with fail
    rw [← HW2.out, ← HX.out]
    clear HW2 HX
    go_loopw [6] (fun i wr => ∃ k : Nat, k ≤ 4 ∧ i = .int .i64 ((k : Int) + 0) ∧ Ext w1 wr ∧ Blk wr X 30 #[.slice (some ⟨g, 0, none⟩) 8 oc, .slice pa 0 pc] ∧ Mv w1.heap.size 85 2 93 wr g 8 oc (wipeK KK 0 k) (.slice pa 0 pc) [] [] k) (fun i _ => 4 - (intOf i).toNat)
    case atStart => exact ⟨0, by omega, rfl, hE3, hK0, hM0⟩
    case round =>
      clear hK0 hM0 CK0 hE2 hE3 KR2
      obtain ⟨k, hk, rfl, he, hK, hM⟩ := hrel
      have hsz4 := he.size
      have hXq : X < wr.heap.size := hK.lt
      have hgq := hM.low
      have CK := hK.cell
      have FK := hK.frozen
      by_cases hlt : k < 4
      · obtain ⟨cur2, ssk, hn, hGq, hsk, hcur⟩ := hM.blk (by rw [wipeK_len]; omega)
        have hfl := wipeK_len KK 0 k
        have hkl : 0 + k < 8 := by omega
        obtain ⟨rr, hrr⟩ : ∃ rr, (wipeK KK 0 k)[0 + k]? = some rr := ⟨_, List.getElem?_eq_getElem (by omega)⟩
        obtain ⟨so, hso⟩ : ∃ so, ssk[0 + k]? = some so := ⟨_, List.getElem?_eq_getElem (by omega)⟩
        have e9 : wr.cell? ⟨g, 0 + k, none⟩ = some so := by rw [hGq.cell]; exact (hcur _ rr so hrr hso).1
        have FG := hGq.frozen
        clear hn hsk hcur hrr hso hfl hGq
        rw [show 0 + k = k by omega] at e9
        go_wp2_with fail
        go_roundw
        case rel =>
          refine ⟨k + 1, by omega, by first | go_num | (simp; omega), Ext.setCell he (by omega) _, hK.far (by simp; omega) _, ?_⟩
          show Mv _ _ _ _ _ _ _ _ ((wipeK KK 0 k).set (0 + k) []) _ _ _ _
          rw [show 0 + k = k by omega]
          exact hM.fresh (Ext.refl _) (OwnI.nil _ _ _ _) (by omega) (by rw [wipeK_len]; omega)
        case measure => simp [intOf]; omega
      · obtain rfl : k = 4 := by omega
        have KR3 := KR1.ext he
        have CR3 := KR3.cell
        have FR3 := KR3.frozen
        go_wp2_with fail
        refine bodyPost_ret (by simp [results, Try.results25, go_sem, *]; try rfl) rfl ?_
        obtain ⟨ss2, h2, h3, _, _⟩ := hM
        have hc1 : w.heap.size + 1 < w1.heap.size := by omega
        refine ⟨_, rfl, by repeat' (first | (with_reducible exact Ext.refl _) | (with_reducible assumption) | (with_reducible refine Ext.drewN ?_ _) | (with_reducible refine Ext.drew ?_) | (with_reducible refine Ext.alloc ?_ _) | (with_reducible refine Ext.setCell ?_ ?_ _) | (with_reducible refine Ext.setRow ?_ ?_ _) | (with_reducible exact Nat.le_refl _) | (with_reducible refine Ext.trans ?_ (by assumption)) | omega), IsDisk.cast ⟨_, _, ss2, [], rfl, OwnNs.mono (B := w1.heap.size) (h2.keep (((Chg.refl w1.heap.size _).setLow hc1 _).setLow hc1 _)) (by omega), OwnNs.mono (B := w1.heap.size) (h3.keep (((Chg.refl w1.heap.size _).setLow hc1 _).setLow hc1 _)) (by omega), h2.apart h3 (by decide) (by decide)⟩ HWS.out.symm⟩
  · have hs : ((1 : Int) * 4).toNat = 4 := rfl
    rw [hs] at hM0
    have hw := HWS.out
    rw [hs] at hw
    have HWS := Lib.hid hw
    clear hs hw
    go_wp2_with fail
    rw [← HW2.out, ← HX.out]
    clear HW2 HX
    go_loopw [6] (fun i wr => ∃ k : Nat, k ≤ 4 ∧ i = .int .i64 ((k : Int) + 4) ∧ Ext w1 wr ∧ Blk wr X 30 #[.slice (some ⟨g, 0, none⟩) 8 oc, .slice pa 0 pc] ∧ Mv w1.heap.size 85 2 93 wr g 8 oc (wipeK KK 4 k) (.slice pa 0 pc) [] [] k) (fun i _ => 8 - (intOf i).toNat)
    case atStart => exact ⟨0, by omega, rfl, hE3, hK0, hM0⟩
    case round =>
      clear hK0 hM0 CK0 hE2 hE3 KR2
      obtain ⟨k, hk, rfl, he, hK, hM⟩ := hrel
      have hsz4 := he.size
      have hXq : X < wr.heap.size := hK.lt
      have hgq := hM.low
      have CK := hK.cell
      have FK := hK.frozen
      by_cases hlt : k < 4
      · obtain ⟨cur2, ssk, hn, hGq, hsk, hcur⟩ := hM.blk (by rw [wipeK_len]; omega)
        have hfl := wipeK_len KK 4 k
        have hkl : 4 + k < 8 := by omega
        obtain ⟨rr, hrr⟩ : ∃ rr, (wipeK KK 4 k)[4 + k]? = some rr := ⟨_, List.getElem?_eq_getElem (by omega)⟩
        obtain ⟨so, hso⟩ : ∃ so, ssk[4 + k]? = some so := ⟨_, List.getElem?_eq_getElem (by omega)⟩
        have e9 : wr.cell? ⟨g, 4 + k, none⟩ = some so := by rw [hGq.cell]; exact (hcur _ rr so hrr hso).1
        have FG := hGq.frozen
        clear hn hsk hcur hrr hso hfl hGq
        rw [show 4 + k = (k + 4) by omega] at e9
        go_wp2_with fail
        go_roundw
        case rel =>
          refine ⟨k + 1, by omega, by first | go_num | (simp; omega), Ext.setCell he (by omega) _, hK.far (by simp; omega) _, ?_⟩
          show Mv _ _ _ _ _ _ _ _ ((wipeK KK 4 k).set (4 + k) []) _ _ _ _
          rw [show 4 + k = (k + 4) by omega]
          exact hM.fresh (Ext.refl _) (OwnI.nil _ _ _ _) (by omega) (by rw [wipeK_len]; omega)
        case measure => simp [intOf]; omega
      · obtain rfl : k = 4 := by omega
        have KR3 := KR1.ext he
        have CR3 := KR3.cell
        have FR3 := KR3.frozen
        go_wp2_with fail
        refine bodyPost_ret (by simp [results, Try.results25, go_sem, *]; try rfl) rfl ?_
        obtain ⟨ss2, h2, h3, _, _⟩ := hM
        have hc1 : w.heap.size + 1 < w1.heap.size := by omega
        refine ⟨_, rfl, by repeat' (first | (with_reducible exact Ext.refl _) | (with_reducible assumption) | (with_reducible refine Ext.drewN ?_ _) | (with_reducible refine Ext.drew ?_) | (with_reducible refine Ext.alloc ?_ _) | (with_reducible refine Ext.setCell ?_ ?_ _) | (with_reducible refine Ext.setRow ?_ ?_ _) | (with_reducible exact Nat.le_refl _) | (with_reducible refine Ext.trans ?_ (by assumption)) | omega), IsDisk.cast ⟨_, _, ss2, [], rfl, OwnNs.mono (B := w1.heap.size) (h2.keep (((Chg.refl w1.heap.size _).setLow hc1 _).setLow hc1 _)) (by omega), OwnNs.mono (B := w1.heap.size) (h3.keep (((Chg.refl w1.heap.size _).setLow hc1 _).setLow hc1 _)) (by omega), h2.apart h3 (by decide) (by decide)⟩ HWS.out.symm⟩
theorem sWipedSlot_k {w : World} {v : Value} {d : DDisk} (h : RdDisk w v d) (c : Int) : Calls Try.prog 24 #[v, .int .i64 c] w (Ret w fun r w' => ∃ F, OwDisk w.heap.size w' r (wipedSlot d c) F) := by
  obtain ⟨t0, t1, rfl, h0, h1⟩ := h
  exact (sWipedSlot_c w t0 d.Kept t1 d.Wait c h0 h1).mono (fun e w' ⟨v, he, hx, hd⟩ => ⟨v, he, hx, hd.ow⟩)
theorem wipedSlot_k {w : World} {v : Value} {d : DDisk} (h : RdDisk w v d) (c : Int) : Calls Try.prog 25 #[v, .int .i64 c] w (Ret w fun r w' => ∃ F, OwDisk w.heap.size w' r (wipedSlot d c) F) := by
  obtain ⟨t0, t1, rfl, h0, h1⟩ := h
  exact (wipedSlot_c w t0 d.Kept t1 d.Wait c h0 h1).mono (fun e w' ⟨v, he, hx, hd⟩ => ⟨v, he, hx, hd.ow⟩)
theorem sum_bound {α : Type} (f : α → Nat) (N : Nat) : ∀ (l : List α), (∀ x, x ∈ l → f x ≤ N) → (l.map f).sum ≤ l.length * N
  | [], _ => by simp
  | x :: l, h => by
    have h1 := h x (by simp)
    have h2 := sum_bound f N l (fun y hy => h y (by simp [hy]))
    simp only [List.map_cons, List.sum_cons, List.length_cons, Nat.add_mul, Nat.one_mul]; omega
theorem nDisk_bound {d : DDisk} (h0 : d.Kept.length ≤ 40) (h1 : ∀ r, r ∈ d.Kept → r.length ≤ 48) (h2 : d.Wait.length ≤ 60) (h3 : ∀ x, x ∈ d.Wait → x.Row.length ≤ 48) : nDisk d ≤ 1000000 := by
  have a := sum_bound (fun r : NRow => r.2.length) 48 (nestInt64S d.Kept) (fun x hx => by
    simp only [nestInt64S, List.mem_map] at hx; obtain ⟨r, hr, rfl⟩ := hx; exact h1 r hr)
  have b := sum_bound (fun r : NRow => r.2.length) 48 (nestWrite d.Wait) (fun x hx => by
    simp only [nestWrite, List.mem_map] at hx; obtain ⟨r, hr, rfl⟩ := hx; exact h3 r hr)
  have c := tot_zero (nestInt64S d.Kept); have e := tot_one (nestWrite d.Wait)
  have l0 : (nestInt64S d.Kept).length = d.Kept.length := by simp [nestInt64S]
  have l1 : (nestWrite d.Wait).length = d.Wait.length := by simp [nestWrite]
  unfold nDisk
  unfold rowsSize at c e
  rw [l0] at a c; rw [l1] at b e
  omega
theorem nDisk_ok {d : DDisk} (h : diskOk d = true) : nDisk d ≤ 1000000 := by
  obtain ⟨h1, h2, h3, h4, h5⟩ := diskOk_rows h
  exact nDisk_bound h4 h1 h5 (fun x hx => (h2 x hx).1)
theorem wipeK_ok {K : List (List Int)} (h : ∀ r, r ∈ K → r.length ≤ 48) (s k : Nat) : ∀ r, r ∈ wipeK K s k → r.length ≤ 48 := by
  induction k with
  | zero => exact h
  | succ k ih =>
    intro r hr
    rcases List.mem_or_eq_of_mem_set hr with h1 | rfl
    · exact ih r h1
    · simp
theorem nWiped (d : DDisk) (c : Int) : nDisk (wipedSlot d c) ≤ 1000000 := by
  unfold wipedSlot
  split
  · rename_i h
    have hd := shelfOk_disk h
    split
    · obtain ⟨h1, h2, h3, h4, h5⟩ := diskOk_rows hd
      exact nDisk_bound (by simp only [wipeK_len, fallK_len]; exact h4) (wipeK_ok (fallK_ok hd _) _ _) (by simp) (by simp)
    · exact nDisk_ok hd
  · simp [nDisk, tot, nestInt64S, nestWrite]

end Go.Proofs.Ytghfklophkekjaa
