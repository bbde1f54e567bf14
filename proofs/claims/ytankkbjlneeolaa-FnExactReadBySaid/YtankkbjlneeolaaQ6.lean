/- The reference's disks that are synced or fall. -/
import Derived.Test.YtankkbjlneeolaaQ5
set_option linter.unusedSimpArgs false
set_option linter.unusedVariables false
namespace Go.Proofs.Ytankkbjlneeolaa
open Go.RowKit Go.G8

set_option maxHeartbeats 8000000 in
set_option maxRecDepth 100000 in
theorem l3Fall_c (w : World) (s0_0 : Value) (l0_0 : List (List Int)) (s0_1 : Value) (l0_1 : List DWrite) (s1_0 : Value) (fates : List Int) (all : Bool) (h0_0 : Nest 0 w s0_0 (nestInt64S l0_0)) (h0_1 : Nest 1 w s0_1 (nestWrite l0_1)) (h1_0 : Ints 1 w s1_0 fates) (e0 : diskOk ⟨l0_0, l0_1⟩ = true) :
    Calls Try.prog 53 #[.agg #[s0_0, s0_1], s1_0, .bool all] w (Ret w fun r0 w' => IsDisk w.heap.size w' r0 (⟨fallK all fates ⟨l0_0, l0_1⟩ l0_1.length, []⟩ : DDisk)) := by
  have hsm := diskOk_small e0
  obtain ⟨hr1, hr2, hk1, hk2, hk3⟩ := diskOk_rows e0
  simp only [] at hr1 hr2 hk1 hk2 hk3
  obtain ⟨a0, cap0, rfl, hc0, hm0, _⟩ := Nest.rows h0_0
  obtain ⟨a1, cap1, rfl, hc1, hm1, ha1⟩ := Nest.writes h0_1
  obtain ⟨a2, cap2, rfl, hc2, hm2, ha2⟩ := h1_0.one
  have HB := Lib.hid ha1; have HC := Lib.hid ha2
  have HR2 := Lib.hid hr2
  have HOK := Lib.hid (fallK_ok (all := all) (fates := fates) e0)
  clear ha1 ha2 hr1 hr2
  unfold maxLen at hm0 hm1 hm2
  obtain ⟨W0, hW0⟩ : ∃ W0, W0 = (w.alloc (.cells #[.slice a0 l0_0.length cap0, .slice a1 l0_1.length cap1] 38)).alloc (.cells #[.slice none 0 0, .slice none 0 0] 38) := ⟨_, rfl⟩
  have hE0 : Ext w W0 := by rw [hW0]; exact ((Ext.refl _).alloc _).alloc _
  have hs0 : W0.heap.size = w.heap.size + 1 + 1 := by rw [hW0]; simp
  have R0 : Blk W0 (w.heap.size + 1) 38 #[.slice none 0 0, .slice none 0 0] := by rw [hW0]; exact Blk.new2 _ _ _ _
  have I0 : W0.cell? ⟨w.heap.size, 0, none⟩ = some (.slice a0 l0_0.length cap0) := by rw [hW0]; simp
  have I1 : W0.cell? ⟨w.heap.size, 1, none⟩ = some (.slice a1 l0_1.length cap1) := by rw [hW0]; simp
  go_enter Try.func53, Try.ntmps53
  go_wp2_with fail
  rw [← hW0]
  refine (l3Copy_c _ _ l0_0 _ l0_1 (h0_0.ext hE0) (h0_1.ext hE0) hsm).mono ?_
  rintro e w1 ⟨_, rfl, hx1, t0, t1, ss, ss1, rfl, ho0, ho1, _⟩
  obtain ⟨ya, yn, yc, rfl⟩ := ho1.nest.shape
  clear ho1
  have ho0 : OwnNs W0.heap.size 34 2 0 w1 t0 (nestInt64S l0_0) ss := ho0
  obtain ⟨oa, on, oc, rfl⟩ := ho0.nest.shape
  obtain ⟨X, hX⟩ : ∃ X, X = w1.heap.size := ⟨_, rfl⟩
  have hK0 : Blk (w1.alloc (.cells #[.slice oa on oc, .slice none 0 0] 38)) X 38 #[.slice oa on oc, .slice none 0 0] := by rw [hX]; exact Blk.new _ _ _
  have hE1 : Ext W0 (w1.alloc (.cells #[.slice oa on oc, .slice none 0 0] 38)) := hx1.alloc _
  have hXa : W0.heap.size ≤ X := by rw [hX]; exact hx1.size
  have hl0 : (nestInt64S l0_0).length = l0_0.length := by simp [nestInt64S]
  obtain ⟨g, cp, cur, hv, hcp1, hcp2, hBg, _, _⟩ := ho0.open_ (by rw [hl0]; omega)
  injection hv with hv1 hv2 hv3
  subst hv1; subst hv2; subst hv3
  rw [hl0] at hK0 hE1 hcp1
  have hgX : g < X := by rw [hX]; exact (ho0.foot g (by simp [feet, Value.ownBlock])).2
  have hM0 : Mv W0.heap.size 34 2 97 (w1.alloc (.cells #[.slice (some ⟨g, 0, none⟩) l0_0.length oc, .slice none 0 0] 38)) g l0_0.length oc l0_0 (.slice none 0 0) [] [] 0 := by
    refine ⟨ss, ?_, OwnNs.nil _ _ _ _ _, by simp [feet, Value.ownBlock], fun j s f _ h => by simp at h⟩
    rw [hl0] at ho0
    exact ho0.ext ((Ext.refl _).alloc _)
  have hr0 : Hid (X = w1.heap.size) := Lib.hid hX
  have hw1 : w.heap.size + 1 < w1.heap.size := by have := hx1.size; omega
  have hsz1 := hx1.size
  clear hX ho0 hx1 hW0 hl0
  rw [show (nestInt64S l0_0).length = l0_0.length by simp [nestInt64S]]
  have hfd : ∀ w : World, (Instr.field 38 (.agg #[.slice (some ⟨g, 0, none⟩) l0_0.length oc, .slice ya yn yc]) 0).run Try.prog w = .ok (.slice (some ⟨g, 0, none⟩) l0_0.length oc) w := fun _ => by kernel_rfl
  go_wp2_with fail
  clear hfd
  rw [← hr0.out]
  rw [← hr0.out] at hw1 hsz1
  obtain ⟨W2, hW2⟩ : ∃ W2, W2 = w1.alloc (.cells #[.slice (some ⟨g, 0, none⟩) l0_0.length oc, .slice none 0 0] 38) := ⟨_, rfl⟩
  rw [← hW2] at hK0 hE1 hM0 ⊢
  clear hW2 hr0
  go_loopw [8] (fun i wr => ∃ k : Nat, k ≤ l0_1.length ∧ i = .int .i64 k ∧ Ext W0 wr ∧ Blk wr X 38 #[.slice (some ⟨g, 0, none⟩) l0_0.length oc, .slice none 0 0] ∧ Mv W0.heap.size 34 2 97 wr g l0_0.length oc (fallK all fates ⟨l0_0, l0_1⟩ k) (.slice none 0 0) [] [] k) (fun i _ => l0_1.length - (intOf i).toNat)
  case atStart => exact ⟨0, Nat.zero_le _, rfl, hE1, hK0, hM0⟩
  case round =>
    obtain ⟨k, hk, rfl, he, hK, hM⟩ := hrel
    have p1 := he.cell I1
    have hsz4 := he.size
    by_cases hlt : k < l0_1.length
    · obtain ⟨d, b1, o1, sa, sn, sc, hr, rfl, hb1, c0, c1, hin⟩ := HB.out k hlt
      obtain ⟨hd1, hd2, hd3⟩ := HR2.out d (List.mem_of_getElem? hr)
      obtain ⟨p, hp⟩ := Int.eq_ofNat_of_zero_le hd2
      have HPD := Lib.hid hp
      have hp0 : (0 : Int) ≤ (p : Int) := by omega
      have hp1 : (p : Int) < (l0_0.length : Int) := by omega
      have d0 := (hE0.trans he).cell c0
      have d1 := (hE0.trans he).cell c1
      rw [hp] at d0
      obtain ⟨wq, hwq⟩ : ∃ wq, wq = wr.alloc (.cells #[.int .i64 (p : Int), .slice sa sn sc] 97) := ⟨_, rfl⟩
      have hEq : Ext wr wq := by rw [hwq]; exact (Ext.refl _).alloc _
      have hsq : wq.heap.size = wr.heap.size + 1 := by rw [hwq]; simp
      have hBq : Blk wq wr.heap.size 97 #[.int .i64 (p : Int), .slice sa sn sc] := by rw [hwq]; exact Blk.new _ _ _
      have hE9 : Ext W0 wq := he.trans hEq
      have hin' := hin.ext (hE0.trans hE9)
      have HR := Lib.hid hr
      have hKq := hK.ext hEq
      have hMq := hM.ext hEq
      have hXq : X < wr.heap.size := hK.lt
      have hgq := hM.low
      obtain ⟨cur, ssk, hn, hGq, hsk, hcur⟩ := hMq.blk (by rw [fallK_len]; exact hk1)
      have hfl := fallK_len all fates ⟨l0_0, l0_1⟩ k
      simp only [] at hfl
      obtain ⟨rr, hrr⟩ : ∃ rr, (fallK all fates ⟨l0_0, l0_1⟩ k)[p]? = some rr := ⟨_, List.getElem?_eq_getElem (by omega)⟩
      obtain ⟨so, hso⟩ : ∃ so, ssk[p]? = some so := ⟨_, List.getElem?_eq_getElem (by omega)⟩
      obtain ⟨hcp, hrow⟩ := hcur p rr so hrr hso
      obtain ⟨ra, rn, rc, rfl⟩ := hrow.shape
      have hrl := HOK.out k rr (List.mem_of_getElem? hrr)
      have e9 : wq.cell? ⟨g, p, none⟩ = some (.slice ra rn rc) := by rw [hGq.cell]; exact hcp
      have HRR := Lib.hid hrr
      have HW := Lib.hid hwq
      have hFG := hGq.frozen
      have hGc : (wq.cell? ⟨g, p, none⟩).isSome = true := by rw [e9]; rfl
      clear hr c0 c1 hin hwq hd2 hd3 hp hM hn hsk hcur hrr hso hcp hfl
      by_cases hf : k < fates.length
      · obtain ⟨x, b2, o2, hx, rfl, hb2, cx⟩ := HC.out k hf
        have dx := (hE0.trans he).cell cx
        have hb3 : b2 < wr.heap.size := by have := hE0.size; omega
        have hfx : fate fates k = x := by simp [fate, hx]
        have HFX := Lib.hid hfx
        clear hx cx hfx
        cases all
        · by_cases h1 : x = 1
          · subst h1
            go_wp2_with fail
            rw [← HW.out]
            obtain ⟨Y, hY⟩ : ∃ Y, Y = wr.heap.size := ⟨_, rfl⟩
            rw [← hY] at hBq hXq hgq hsq hsz4
            simp only [← hY]
            have hsr : Y < wq.heap.size := by omega
            clear hY hsq HW d0 d1 p1
            go_region_held3 (fun w' => w'.cell? ⟨X, 0, none⟩ = some (.slice (some ⟨g, 0, none⟩) l0_0.length oc) ∧ w'.cell? ⟨Y, 0, none⟩ = some (.int .i64 (p : Int)) ∧ w'.cell? ⟨Y, 1, none⟩ = some (.slice sa sn sc)) (first | (refine ⟨((hKq.ext ?_).cell 0).trans (by simp), ((hBq.ext ?_).cell 0).trans (by simp), ((hBq.ext ?_).cell 1).trans (by simp)⟩ <;> (repeat' (first | (with_reducible exact Ext.refl _) | (with_reducible assumption) | (with_reducible refine Ext.drewN ?_ _) | (with_reducible refine Ext.drew ?_) | (with_reducible refine Ext.alloc ?_ _) | (with_reducible refine Ext.setCell ?_ ?_ _) | (with_reducible refine Ext.setRow ?_ ?_ _) | (with_reducible exact Nat.le_refl _) | (with_reducible refine Ext.trans ?_ (by assumption)) | omega)); done) | (refine ⟨(((hKq.ext ?_).far (by simp; omega) _).cell 0).trans (by simp), (((hBq.ext ?_).far (by simp; omega) _).cell 0).trans (by simp), (((hBq.ext ?_).far (by simp; omega) _).cell 1).trans (by simp)⟩ <;> (repeat' (first | (with_reducible exact Ext.refl _) | (with_reducible assumption) | (with_reducible refine Ext.drewN ?_ _) | (with_reducible refine Ext.drew ?_) | (with_reducible refine Ext.alloc ?_ _) | (with_reducible refine Ext.setCell ?_ ?_ _) | (with_reducible refine Ext.setRow ?_ ?_ _) | (with_reducible exact Nat.le_refl _) | (with_reducible refine Ext.trans ?_ (by assumption)) | omega)); done)) (first | (go_at_call 97; refine (l1Copy_c _ _ _ (hin'.ext (by repeat' (first | (with_reducible exact Ext.refl _) | (with_reducible assumption) | (with_reducible refine Ext.drewN ?_ _) | (with_reducible refine Ext.drew ?_) | (with_reducible refine Ext.alloc ?_ _) | (with_reducible refine Ext.setCell ?_ ?_ _) | (with_reducible refine Ext.setRow ?_ ?_ _) | (with_reducible exact Nat.le_refl _) | (with_reducible refine Ext.trans ?_ (by assumption)) | omega))) (by omega)).mono ?_; rintro e w2 ⟨_, rfl, hx2, g2⟩; obtain ⟨ta, tn, tc, rfl⟩ := g2.shape; have hsz2 : wq.heap.size ≤ w2.heap.size := hx2.size; have hsz3 : wq.drew.heap.size = wq.heap.size := rfl; obtain ⟨hc2, hf2⟩ := hx2.cells; have hgw2 : g < w2.heap.size := (by omega); have KW2 : Blk w2 g 34 _ := hGq.ext (by repeat' (first | (with_reducible exact Ext.refl _) | (with_reducible assumption) | (with_reducible refine Ext.drewN ?_ _) | (with_reducible refine Ext.drew ?_) | (with_reducible refine Ext.alloc ?_ _) | (with_reducible refine Ext.setCell ?_ ?_ _) | (with_reducible refine Ext.setRow ?_ ?_ _) | (with_reducible exact Nat.le_refl _) | (with_reducible refine Ext.trans ?_ (by assumption)) | omega)); have FKW2 := KW2.frozen; have E2 := Ext.cell hx2 (p := ⟨g, p, none⟩) e9))
            all_goals
              go_wp2_with fail
              go_roundw
              case rel =>
                have hM2 := hMq.fresh (w := w2) (by repeat' (first | (with_reducible exact Ext.refl _) | (with_reducible assumption) | (with_reducible refine Ext.drewN ?_ _) | (with_reducible refine Ext.drew ?_) | (with_reducible refine Ext.alloc ?_ _) | (with_reducible refine Ext.setCell ?_ ?_ _) | (with_reducible refine Ext.setRow ?_ ?_ _) | (with_reducible exact Nat.le_refl _) | (with_reducible refine Ext.trans ?_ (by assumption)) | omega)) (g2.mono (Nat.le_refl _)) (by omega) (p := p) (by rw [fallK_len]; simp only []; omega)
                refine ⟨k + 1, by omega, by go_num, Ext.setCell (by repeat' (first | (with_reducible exact Ext.refl _) | (with_reducible assumption) | (with_reducible refine Ext.drewN ?_ _) | (with_reducible refine Ext.drew ?_) | (with_reducible refine Ext.alloc ?_ _) | (with_reducible refine Ext.setCell ?_ ?_ _) | (with_reducible refine Ext.setRow ?_ ?_ _) | (with_reducible exact Nat.le_refl _) | (with_reducible refine Ext.trans ?_ (by assumption)) | omega)) (by omega) _, ?_, ?_⟩
                · exact (hKq.ext (by repeat' (first | (with_reducible exact Ext.refl _) | (with_reducible assumption) | (with_reducible refine Ext.drewN ?_ _) | (with_reducible refine Ext.drew ?_) | (with_reducible refine Ext.alloc ?_ _) | (with_reducible refine Ext.setCell ?_ ?_ _) | (with_reducible refine Ext.setRow ?_ ?_ _) | (with_reducible exact Nat.le_refl _) | (with_reducible refine Ext.trans ?_ (by assumption)) | omega) : Ext wq w2)).far (by simp; omega) _
                · rw [fallK_succ HR.out]
                  unfold fallStep
                  rw [if_pos (by simp [HFX.out])]
                  have hpn : d.At.toNat = p := by rw [HPD.out]; rfl
                  rw [hpn]
                  exact hM2
              case measure => simp [intOf]; omega
          · by_cases h2 : x = 2
            · subst h2
              go_wp2_with fail
              rw [← HW.out]
              obtain ⟨Y, hY⟩ : ∃ Y, Y = wr.heap.size := ⟨_, rfl⟩
              rw [← hY] at hBq hXq hgq hsq hsz4
              simp only [← hY]
              have hsr : Y < wq.heap.size := by omega
              clear hY hsq HW d0 d1 p1
              refine wp_region_held_drew (S := (fun w' => w'.cell? ⟨X, 0, none⟩ = some (.slice (some ⟨g, 0, none⟩) l0_0.length oc) ∧ w'.cell? ⟨Y, 0, none⟩ = some (.int .i64 (p : Int)) ∧ w'.cell? ⟨Y, 1, none⟩ = some (.slice sa sn sc))) (by kernel_rfl) (by (try dsimp only); first | (refine ⟨((hKq.ext ?_).cell 0).trans (by simp), ((hBq.ext ?_).cell 0).trans (by simp), ((hBq.ext ?_).cell 1).trans (by simp)⟩ <;> (repeat' (first | (with_reducible exact Ext.refl _) | (with_reducible assumption) | (with_reducible refine Ext.drewN ?_ _) | (with_reducible refine Ext.drew ?_) | (with_reducible refine Ext.alloc ?_ _) | (with_reducible refine Ext.setCell ?_ ?_ _) | (with_reducible refine Ext.setRow ?_ ?_ _) | (with_reducible exact Nat.le_refl _) | (with_reducible refine Ext.trans ?_ (by assumption)) | omega)); done) | (refine ⟨(((hKq.ext ?_).far (by simp; omega) _).cell 0).trans (by simp), (((hBq.ext ?_).far (by simp; omega) _).cell 0).trans (by simp), (((hBq.ext ?_).far (by simp; omega) _).cell 1).trans (by simp)⟩ <;> (repeat' (first | (with_reducible exact Ext.refl _) | (with_reducible assumption) | (with_reducible refine Ext.drewN ?_ _) | (with_reducible refine Ext.drew ?_) | (with_reducible refine Ext.alloc ?_ _) | (with_reducible refine Ext.setCell ?_ ?_ _) | (with_reducible refine Ext.setRow ?_ ?_ _) | (with_reducible exact Nat.le_refl _) | (with_reducible refine Ext.trans ?_ (by assumption)) | omega)); done)) (fun hHeld => ?_)
              refine wpAnyH_take (i := 0) (v := ?_) rfl (by kernel_rfl) (by kernel_rfl) (by kernel_rfl) (fun _ _ _ h => h) (Or.inl ⟨by rfl, ?_⟩) (by assumption) ?_
              rotate_left
              focus (intro w hSw; (try dsimp only at hSw); go_simp <;> with_reducible rfl)
              (try simp only [List.getElem_toArray, List.getElem_cons_zero, List.getElem_cons_succ, Act.put, List.setIfInBounds_toArray, List.set_cons_zero, List.set_cons_succ])
              refine wpAnyH_take (i := 1) (v := ?_) rfl (by kernel_rfl) (by kernel_rfl) (by kernel_rfl) (fun _ _ _ h => h) (Or.inl ⟨by rfl, ?_⟩) (by assumption) ?_
              rotate_left
              focus (intro w hSw; (try dsimp only at hSw); go_simp <;> with_reducible rfl)
              (try simp only [List.getElem_toArray, List.getElem_cons_zero, List.getElem_cons_succ, Act.put, List.setIfInBounds_toArray, List.set_cons_zero, List.set_cons_succ])
              refine wpAnyH_take (i := 2) (v := ?_) rfl (by kernel_rfl) (by kernel_rfl) (by kernel_rfl) (fun _ _ _ h => h) (Or.inl ⟨by rfl, ?_⟩) (by assumption) ?_
              rotate_left
              focus (intro w hSw; (try dsimp only at hSw); go_simp <;> with_reducible rfl)
              (try simp only [List.getElem_toArray, List.getElem_cons_zero, List.getElem_cons_succ, Act.put, List.setIfInBounds_toArray, List.set_cons_zero, List.set_cons_succ])
              refine wpAnyH_take (i := 3) (v := ?_) rfl (by kernel_rfl) (by kernel_rfl) (by kernel_rfl) (fun _ _ _ h => h) (Or.inl ⟨by rfl, ?_⟩) (by assumption) ?_
              rotate_left
              focus (intro w hSw; (try dsimp only at hSw); go_simp <;> with_reducible rfl)
              (try simp only [List.getElem_toArray, List.getElem_cons_zero, List.getElem_cons_succ, Act.put, List.setIfInBounds_toArray, List.set_cons_zero, List.set_cons_succ])
              refine wpAnyH_take (i := 4) (v := ?_) rfl (by kernel_rfl) (by kernel_rfl) (by kernel_rfl) (fun _ _ _ h => h) (Or.inl ⟨by rfl, ?_⟩) (by assumption) ?_
              rotate_left
              focus (intro w hSw; (try dsimp only at hSw); go_simp <;> with_reducible rfl)
              (try simp only [List.getElem_toArray, List.getElem_cons_zero, List.getElem_cons_succ, Act.put, List.setIfInBounds_toArray, List.set_cons_zero, List.set_cons_succ])
              refine wpAnyH_take (i := 5) (v := ?_) rfl (by kernel_rfl) (by kernel_rfl) (by kernel_rfl) (fun _ _ _ h => h) (Or.inl ⟨by rfl, ?_⟩) (by assumption) ?_
              rotate_left
              focus (intro w hSw; (try dsimp only at hSw); go_simp <;> with_reducible rfl)
              (try simp only [List.getElem_toArray, List.getElem_cons_zero, List.getElem_cons_succ, Act.put, List.setIfInBounds_toArray, List.set_cons_zero, List.set_cons_succ])
              refine wpAnyH_take (i := 6) (v := ?_) rfl (by kernel_rfl) (by kernel_rfl) (by kernel_rfl) (fun _ _ _ h => h) (Or.inl ⟨by rfl, ?_⟩) (by assumption) ?_
              rotate_left
              focus (intro w hSw; (try dsimp only at hSw); go_simp <;> with_reducible rfl)
              (try simp only [List.getElem_toArray, List.getElem_cons_zero, List.getElem_cons_succ, Act.put, List.setIfInBounds_toArray, List.set_cons_zero, List.set_cons_succ])
              refine wpAnyH_take (i := 7) (v := ?_) rfl (by kernel_rfl) (by kernel_rfl) (by kernel_rfl) (fun _ _ _ h => h) (Or.inl ⟨by rfl, ?_⟩) (by assumption) ?_
              rotate_left
              focus (intro w hSw; (try dsimp only at hSw); go_simp <;> with_reducible rfl)
              (try simp only [List.getElem_toArray, List.getElem_cons_zero, List.getElem_cons_succ, Act.put, List.setIfInBounds_toArray, List.set_cons_zero, List.set_cons_succ])
              refine wpAnyH_take (i := 8) (v := ?_) rfl (by kernel_rfl) (by kernel_rfl) (by kernel_rfl) (fun _ _ _ h => h) (Or.inl ⟨by rfl, ?_⟩) (by assumption) ?_
              rotate_left
              focus (intro w hSw; (try dsimp only at hSw); go_simp <;> with_reducible rfl)
              (try simp only [List.getElem_toArray, List.getElem_cons_zero, List.getElem_cons_succ, Act.put, List.setIfInBounds_toArray, List.set_cons_zero, List.set_cons_succ])
              refine wpAnyH_take (i := 9) (v := ?_) rfl (by kernel_rfl) (by kernel_rfl) (by kernel_rfl) (fun _ _ _ h => h) (Or.inl ⟨by rfl, ?_⟩) (by assumption) ?_
              rotate_left
              focus (intro w hSw; (try dsimp only at hSw); go_simp <;> with_reducible rfl)
              (try simp only [List.getElem_toArray, List.getElem_cons_zero, List.getElem_cons_succ, Act.put, List.setIfInBounds_toArray, List.set_cons_zero, List.set_cons_succ])
              refine wpAnyH_take (i := 10) (v := ?_) rfl (by kernel_rfl) (by kernel_rfl) (by kernel_rfl) (fun _ _ _ h => h) (Or.inl ⟨by rfl, ?_⟩) (by assumption) ?_
              rotate_left
              focus (intro w hSw; (try dsimp only at hSw); go_simp <;> with_reducible rfl)
              (try simp only [List.getElem_toArray, List.getElem_cons_zero, List.getElem_cons_succ, Act.put, List.setIfInBounds_toArray, List.set_cons_zero, List.set_cons_succ])
              refine wpAnyH_ready (rs := [11]) (by kernel_rfl) (by simp) ?_
              refine AllReadyH.cons rfl (fun Kz hKz => ?_) AllReadyH.nil
              (try simp only [List.getElem_toArray, List.getElem_cons_zero, List.getElem_cons_succ])
              go_simp
              refine hKz.out _ _ (by (try dsimp only); first | (refine ⟨((hKq.ext ?_).cell 0).trans (by simp), ((hBq.ext ?_).cell 0).trans (by simp), ((hBq.ext ?_).cell 1).trans (by simp)⟩ <;> (repeat' (first | (with_reducible exact Ext.refl _) | (with_reducible assumption) | (with_reducible refine Ext.drewN ?_ _) | (with_reducible refine Ext.drew ?_) | (with_reducible refine Ext.alloc ?_ _) | (with_reducible refine Ext.setCell ?_ ?_ _) | (with_reducible refine Ext.setRow ?_ ?_ _) | (with_reducible exact Nat.le_refl _) | (with_reducible refine Ext.trans ?_ (by assumption)) | omega)); done) | (refine ⟨(((hKq.ext ?_).far (by simp; omega) _).cell 0).trans (by simp), (((hBq.ext ?_).far (by simp; omega) _).cell 0).trans (by simp), (((hBq.ext ?_).far (by simp; omega) _).cell 1).trans (by simp)⟩ <;> (repeat' (first | (with_reducible exact Ext.refl _) | (with_reducible assumption) | (with_reducible refine Ext.drewN ?_ _) | (with_reducible refine Ext.drew ?_) | (with_reducible refine Ext.alloc ?_ _) | (with_reducible refine Ext.setCell ?_ ?_ _) | (with_reducible refine Ext.setRow ?_ ?_ _) | (with_reducible exact Nat.le_refl _) | (with_reducible refine Ext.trans ?_ (by assumption)) | omega)); done)) (fun hHeld => ?_)
              clear hKz Kz
              (try simp only [List.getElem_toArray, List.getElem_cons_zero, List.getElem_cons_succ, Act.put, List.setIfInBounds_toArray, List.set_cons_zero, List.set_cons_succ])
              refine wpAnyH_ready (rs := [12]) (by kernel_rfl) (by simp) ?_
              refine AllReadyH.cons rfl (fun Kz hKz => ?_) AllReadyH.nil
              (try simp only [List.getElem_toArray, List.getElem_cons_zero, List.getElem_cons_succ])
              go_simp
              (go_at_call 98; refine (l3Torn_c _ _ _ _ _ (hin'.ext (by repeat' (first | (with_reducible exact Ext.refl _) | (with_reducible assumption) | (with_reducible refine Ext.drewN ?_ _) | (with_reducible refine Ext.drew ?_) | (with_reducible refine Ext.alloc ?_ _) | (with_reducible refine Ext.setCell ?_ ?_ _) | (with_reducible refine Ext.setRow ?_ ?_ _) | (with_reducible exact Nat.le_refl _) | (with_reducible refine Ext.trans ?_ (by assumption)) | omega))) (hrow.ints.ext (by repeat' (first | (with_reducible exact Ext.refl _) | (with_reducible assumption) | (with_reducible refine Ext.drewN ?_ _) | (with_reducible refine Ext.drew ?_) | (with_reducible refine Ext.alloc ?_ _) | (with_reducible refine Ext.setCell ?_ ?_ _) | (with_reducible refine Ext.setRow ?_ ?_ _) | (with_reducible exact Nat.le_refl _) | (with_reducible refine Ext.trans ?_ (by assumption)) | omega))) (by omega) (by omega)).mono ?_; rintro e w2 ⟨_, rfl, hx2, g2⟩; obtain ⟨ta, tn, tc, rfl⟩ := g2.shape; have hsz2 : wq.heap.size ≤ w2.heap.size := hx2.size; have hsz3 : wq.drew.heap.size = wq.heap.size := rfl; obtain ⟨hc2, hf2⟩ := hx2.cells; have hgw2 : g < w2.heap.size := (by omega); have KW2 : Blk w2 g 34 _ := hGq.ext (by repeat' (first | (with_reducible exact Ext.refl _) | (with_reducible assumption) | (with_reducible refine Ext.drewN ?_ _) | (with_reducible refine Ext.drew ?_) | (with_reducible refine Ext.alloc ?_ _) | (with_reducible refine Ext.setCell ?_ ?_ _) | (with_reducible refine Ext.setRow ?_ ?_ _) | (with_reducible exact Nat.le_refl _) | (with_reducible refine Ext.trans ?_ (by assumption)) | omega)); have FKW2 := KW2.frozen; have E2 := Ext.cell hx2 (p := ⟨g, p, none⟩) e9)
              refine hKz.out _ _ (by (try dsimp only); first | (refine ⟨((hKq.ext ?_).cell 0).trans (by simp), ((hBq.ext ?_).cell 0).trans (by simp), ((hBq.ext ?_).cell 1).trans (by simp)⟩ <;> (repeat' (first | (with_reducible exact Ext.refl _) | (with_reducible assumption) | (with_reducible refine Ext.drewN ?_ _) | (with_reducible refine Ext.drew ?_) | (with_reducible refine Ext.alloc ?_ _) | (with_reducible refine Ext.setCell ?_ ?_ _) | (with_reducible refine Ext.setRow ?_ ?_ _) | (with_reducible exact Nat.le_refl _) | (with_reducible refine Ext.trans ?_ (by assumption)) | omega)); done) | (refine ⟨(((hKq.ext ?_).far (by simp; omega) _).cell 0).trans (by simp), (((hBq.ext ?_).far (by simp; omega) _).cell 0).trans (by simp), (((hBq.ext ?_).far (by simp; omega) _).cell 1).trans (by simp)⟩ <;> (repeat' (first | (with_reducible exact Ext.refl _) | (with_reducible assumption) | (with_reducible refine Ext.drewN ?_ _) | (with_reducible refine Ext.drew ?_) | (with_reducible refine Ext.alloc ?_ _) | (with_reducible refine Ext.setCell ?_ ?_ _) | (with_reducible refine Ext.setRow ?_ ?_ _) | (with_reducible exact Nat.le_refl _) | (with_reducible refine Ext.trans ?_ (by assumption)) | omega)); done)) (fun hHeld => ?_)
              clear hKz Kz
              (try simp only [List.getElem_toArray, List.getElem_cons_zero, List.getElem_cons_succ, Act.put, List.setIfInBounds_toArray, List.set_cons_zero, List.set_cons_succ])
              refine wpAnyH_take (i := 13) (v := ?_) rfl (by kernel_rfl) (by kernel_rfl) (by kernel_rfl) (fun _ _ _ h => h) (Or.inl ⟨by rfl, ?_⟩) (by assumption) ?_
              rotate_left
              focus (intro w hSw; (try dsimp only at hSw); go_simp <;> with_reducible rfl)
              (try simp only [List.getElem_toArray, List.getElem_cons_zero, List.getElem_cons_succ, Act.put, List.setIfInBounds_toArray, List.set_cons_zero, List.set_cons_succ])
              refine wpAnyH_ready (rs := [14]) (by kernel_rfl) (by simp) ?_
              refine AllReadyH.cons rfl (fun Kz hKz => ?_) AllReadyH.nil
              (try simp only [List.getElem_toArray, List.getElem_cons_zero, List.getElem_cons_succ])
              go_simp
              refine hKz.out _ _ (by (try dsimp only); first | (refine ⟨((hKq.ext ?_).cell 0).trans (by simp), ((hBq.ext ?_).cell 0).trans (by simp), ((hBq.ext ?_).cell 1).trans (by simp)⟩ <;> (repeat' (first | (with_reducible exact Ext.refl _) | (with_reducible assumption) | (with_reducible refine Ext.drewN ?_ _) | (with_reducible refine Ext.drew ?_) | (with_reducible refine Ext.alloc ?_ _) | (with_reducible refine Ext.setCell ?_ ?_ _) | (with_reducible refine Ext.setRow ?_ ?_ _) | (with_reducible exact Nat.le_refl _) | (with_reducible refine Ext.trans ?_ (by assumption)) | omega)); done) | (refine ⟨(((hKq.ext ?_).far (by simp; omega) _).cell 0).trans (by simp), (((hBq.ext ?_).far (by simp; omega) _).cell 0).trans (by simp), (((hBq.ext ?_).far (by simp; omega) _).cell 1).trans (by simp)⟩ <;> (repeat' (first | (with_reducible exact Ext.refl _) | (with_reducible assumption) | (with_reducible refine Ext.drewN ?_ _) | (with_reducible refine Ext.drew ?_) | (with_reducible refine Ext.alloc ?_ _) | (with_reducible refine Ext.setCell ?_ ?_ _) | (with_reducible refine Ext.setRow ?_ ?_ _) | (with_reducible exact Nat.le_refl _) | (with_reducible refine Ext.trans ?_ (by assumption)) | omega)); done)) (fun hHeld => ?_)
              clear hKz Kz
              (try simp only [List.getElem_toArray, List.getElem_cons_zero, List.getElem_cons_succ, Act.put, List.setIfInBounds_toArray, List.set_cons_zero, List.set_cons_succ])
              refine wpAnyH_done (by kernel_rfl) ?_ _
              all_goals
                go_wp2_with fail
                go_roundw
                case rel =>
                  have hM2 := hMq.fresh (w := w2) (by repeat' (first | (with_reducible exact Ext.refl _) | (with_reducible assumption) | (with_reducible refine Ext.drewN ?_ _) | (with_reducible refine Ext.drew ?_) | (with_reducible refine Ext.alloc ?_ _) | (with_reducible refine Ext.setCell ?_ ?_ _) | (with_reducible refine Ext.setRow ?_ ?_ _) | (with_reducible exact Nat.le_refl _) | (with_reducible refine Ext.trans ?_ (by assumption)) | omega)) (g2.mono (Nat.le_refl _)) (by omega) (p := p) (by rw [fallK_len]; simp only []; omega)
                  refine ⟨k + 1, by omega, by go_num, Ext.setCell (by repeat' (first | (with_reducible exact Ext.refl _) | (with_reducible assumption) | (with_reducible refine Ext.drewN ?_ _) | (with_reducible refine Ext.drew ?_) | (with_reducible refine Ext.alloc ?_ _) | (with_reducible refine Ext.setCell ?_ ?_ _) | (with_reducible refine Ext.setRow ?_ ?_ _) | (with_reducible exact Nat.le_refl _) | (with_reducible refine Ext.trans ?_ (by assumption)) | omega)) (by omega) _, ?_, ?_⟩
                  · exact (hKq.ext (by repeat' (first | (with_reducible exact Ext.refl _) | (with_reducible assumption) | (with_reducible refine Ext.drewN ?_ _) | (with_reducible refine Ext.drew ?_) | (with_reducible refine Ext.alloc ?_ _) | (with_reducible refine Ext.setCell ?_ ?_ _) | (with_reducible refine Ext.setRow ?_ ?_ _) | (with_reducible exact Nat.le_refl _) | (with_reducible refine Ext.trans ?_ (by assumption)) | omega) : Ext wq w2)).far (by simp; omega) _
                  · rw [fallK_succ HR.out]
                    unfold fallStep
                    rw [if_neg (by simp [HFX.out]), if_pos HFX.out]
                    have hpn : d.At.toNat = p := by rw [HPD.out]; rfl
                    rw [hpn]
                    rw [HRR.out]; exact hM2
                case measure => simp [intOf]; omega
            · go_wp2_with fail
              rw [← HW.out]
              go_roundw
              case rel =>
                refine ⟨k + 1, by omega, by go_num, hE9, hKq, ?_⟩
                rw [fallK_succ HR.out]
                unfold fallStep
                rw [if_neg (by simp [HFX.out, h1]), if_neg (by rw [HFX.out]; exact h2)]
                exact hMq.skip
              case measure => simp [intOf]; omega
        · go_wp2_with fail
          rw [← HW.out]
          obtain ⟨Y, hY⟩ : ∃ Y, Y = wr.heap.size := ⟨_, rfl⟩
          rw [← hY] at hBq hXq hgq hsq hsz4
          simp only [← hY]
          have hsr : Y < wq.heap.size := by omega
          clear hY hsq HW d0 d1 p1
          go_region_held3 (fun w' => w'.cell? ⟨X, 0, none⟩ = some (.slice (some ⟨g, 0, none⟩) l0_0.length oc) ∧ w'.cell? ⟨Y, 0, none⟩ = some (.int .i64 (p : Int)) ∧ w'.cell? ⟨Y, 1, none⟩ = some (.slice sa sn sc)) (first | (refine ⟨((hKq.ext ?_).cell 0).trans (by simp), ((hBq.ext ?_).cell 0).trans (by simp), ((hBq.ext ?_).cell 1).trans (by simp)⟩ <;> (repeat' (first | (with_reducible exact Ext.refl _) | (with_reducible assumption) | (with_reducible refine Ext.drewN ?_ _) | (with_reducible refine Ext.drew ?_) | (with_reducible refine Ext.alloc ?_ _) | (with_reducible refine Ext.setCell ?_ ?_ _) | (with_reducible refine Ext.setRow ?_ ?_ _) | (with_reducible exact Nat.le_refl _) | (with_reducible refine Ext.trans ?_ (by assumption)) | omega)); done) | (refine ⟨(((hKq.ext ?_).far (by simp; omega) _).cell 0).trans (by simp), (((hBq.ext ?_).far (by simp; omega) _).cell 0).trans (by simp), (((hBq.ext ?_).far (by simp; omega) _).cell 1).trans (by simp)⟩ <;> (repeat' (first | (with_reducible exact Ext.refl _) | (with_reducible assumption) | (with_reducible refine Ext.drewN ?_ _) | (with_reducible refine Ext.drew ?_) | (with_reducible refine Ext.alloc ?_ _) | (with_reducible refine Ext.setCell ?_ ?_ _) | (with_reducible refine Ext.setRow ?_ ?_ _) | (with_reducible exact Nat.le_refl _) | (with_reducible refine Ext.trans ?_ (by assumption)) | omega)); done)) (first | (go_at_call 97; refine (l1Copy_c _ _ _ (hin'.ext (by repeat' (first | (with_reducible exact Ext.refl _) | (with_reducible assumption) | (with_reducible refine Ext.drewN ?_ _) | (with_reducible refine Ext.drew ?_) | (with_reducible refine Ext.alloc ?_ _) | (with_reducible refine Ext.setCell ?_ ?_ _) | (with_reducible refine Ext.setRow ?_ ?_ _) | (with_reducible exact Nat.le_refl _) | (with_reducible refine Ext.trans ?_ (by assumption)) | omega))) (by omega)).mono ?_; rintro e w2 ⟨_, rfl, hx2, g2⟩; obtain ⟨ta, tn, tc, rfl⟩ := g2.shape; have hsz2 : wq.heap.size ≤ w2.heap.size := hx2.size; have hsz3 : wq.drew.heap.size = wq.heap.size := rfl; obtain ⟨hc2, hf2⟩ := hx2.cells; have hgw2 : g < w2.heap.size := (by omega); have KW2 : Blk w2 g 34 _ := hGq.ext (by repeat' (first | (with_reducible exact Ext.refl _) | (with_reducible assumption) | (with_reducible refine Ext.drewN ?_ _) | (with_reducible refine Ext.drew ?_) | (with_reducible refine Ext.alloc ?_ _) | (with_reducible refine Ext.setCell ?_ ?_ _) | (with_reducible refine Ext.setRow ?_ ?_ _) | (with_reducible exact Nat.le_refl _) | (with_reducible refine Ext.trans ?_ (by assumption)) | omega)); have FKW2 := KW2.frozen; have E2 := Ext.cell hx2 (p := ⟨g, p, none⟩) e9))
          all_goals
            go_wp2_with fail
            go_roundw
            case rel =>
              have hM2 := hMq.fresh (w := w2) (by repeat' (first | (with_reducible exact Ext.refl _) | (with_reducible assumption) | (with_reducible refine Ext.drewN ?_ _) | (with_reducible refine Ext.drew ?_) | (with_reducible refine Ext.alloc ?_ _) | (with_reducible refine Ext.setCell ?_ ?_ _) | (with_reducible refine Ext.setRow ?_ ?_ _) | (with_reducible exact Nat.le_refl _) | (with_reducible refine Ext.trans ?_ (by assumption)) | omega)) (g2.mono (Nat.le_refl _)) (by omega) (p := p) (by rw [fallK_len]; simp only []; omega)
              refine ⟨k + 1, by omega, by go_num, Ext.setCell (by repeat' (first | (with_reducible exact Ext.refl _) | (with_reducible assumption) | (with_reducible refine Ext.drewN ?_ _) | (with_reducible refine Ext.drew ?_) | (with_reducible refine Ext.alloc ?_ _) | (with_reducible refine Ext.setCell ?_ ?_ _) | (with_reducible refine Ext.setRow ?_ ?_ _) | (with_reducible exact Nat.le_refl _) | (with_reducible refine Ext.trans ?_ (by assumption)) | omega)) (by omega) _, ?_, ?_⟩
              · exact (hKq.ext (by repeat' (first | (with_reducible exact Ext.refl _) | (with_reducible assumption) | (with_reducible refine Ext.drewN ?_ _) | (with_reducible refine Ext.drew ?_) | (with_reducible refine Ext.alloc ?_ _) | (with_reducible refine Ext.setCell ?_ ?_ _) | (with_reducible refine Ext.setRow ?_ ?_ _) | (with_reducible exact Nat.le_refl _) | (with_reducible refine Ext.trans ?_ (by assumption)) | omega) : Ext wq w2)).far (by simp; omega) _
              · rw [fallK_succ HR.out]
                unfold fallStep
                rw [if_pos (by simp)]
                have hpn : d.At.toNat = p := by rw [HPD.out]; rfl
                rw [hpn]
                exact hM2
            case measure => simp [intOf]; omega
      · have hfx : fate fates k = 0 := by simp [fate, List.getElem?_eq_none (Nat.le_of_not_lt hf)]
        have HFX := Lib.hid hfx
        clear hfx
        cases all
        · go_wp2_with fail
          rw [← HW.out]
          go_roundw
          case rel =>
            refine ⟨k + 1, by omega, by go_num, hE9, hKq, ?_⟩
            rw [fallK_succ HR.out]
            unfold fallStep
            rw [if_neg (by simp [HFX.out]), if_neg (by rw [HFX.out]; decide)]
            exact hMq.skip
          case measure => simp [intOf]; omega
        · go_wp2_with fail
          rw [← HW.out]
          obtain ⟨Y, hY⟩ : ∃ Y, Y = wr.heap.size := ⟨_, rfl⟩
          rw [← hY] at hBq hXq hgq hsq hsz4
          simp only [← hY]
          have hsr : Y < wq.heap.size := by omega
          clear hY hsq HW d0 d1 p1
          go_region_held3 (fun w' => w'.cell? ⟨X, 0, none⟩ = some (.slice (some ⟨g, 0, none⟩) l0_0.length oc) ∧ w'.cell? ⟨Y, 0, none⟩ = some (.int .i64 (p : Int)) ∧ w'.cell? ⟨Y, 1, none⟩ = some (.slice sa sn sc)) (first | (refine ⟨((hKq.ext ?_).cell 0).trans (by simp), ((hBq.ext ?_).cell 0).trans (by simp), ((hBq.ext ?_).cell 1).trans (by simp)⟩ <;> (repeat' (first | (with_reducible exact Ext.refl _) | (with_reducible assumption) | (with_reducible refine Ext.drewN ?_ _) | (with_reducible refine Ext.drew ?_) | (with_reducible refine Ext.alloc ?_ _) | (with_reducible refine Ext.setCell ?_ ?_ _) | (with_reducible refine Ext.setRow ?_ ?_ _) | (with_reducible exact Nat.le_refl _) | (with_reducible refine Ext.trans ?_ (by assumption)) | omega)); done) | (refine ⟨(((hKq.ext ?_).far (by simp; omega) _).cell 0).trans (by simp), (((hBq.ext ?_).far (by simp; omega) _).cell 0).trans (by simp), (((hBq.ext ?_).far (by simp; omega) _).cell 1).trans (by simp)⟩ <;> (repeat' (first | (with_reducible exact Ext.refl _) | (with_reducible assumption) | (with_reducible refine Ext.drewN ?_ _) | (with_reducible refine Ext.drew ?_) | (with_reducible refine Ext.alloc ?_ _) | (with_reducible refine Ext.setCell ?_ ?_ _) | (with_reducible refine Ext.setRow ?_ ?_ _) | (with_reducible exact Nat.le_refl _) | (with_reducible refine Ext.trans ?_ (by assumption)) | omega)); done)) (first | (go_at_call 97; refine (l1Copy_c _ _ _ (hin'.ext (by repeat' (first | (with_reducible exact Ext.refl _) | (with_reducible assumption) | (with_reducible refine Ext.drewN ?_ _) | (with_reducible refine Ext.drew ?_) | (with_reducible refine Ext.alloc ?_ _) | (with_reducible refine Ext.setCell ?_ ?_ _) | (with_reducible refine Ext.setRow ?_ ?_ _) | (with_reducible exact Nat.le_refl _) | (with_reducible refine Ext.trans ?_ (by assumption)) | omega))) (by omega)).mono ?_; rintro e w2 ⟨_, rfl, hx2, g2⟩; obtain ⟨ta, tn, tc, rfl⟩ := g2.shape; have hsz2 : wq.heap.size ≤ w2.heap.size := hx2.size; have hsz3 : wq.drew.heap.size = wq.heap.size := rfl; obtain ⟨hc2, hf2⟩ := hx2.cells; have hgw2 : g < w2.heap.size := (by omega); have KW2 : Blk w2 g 34 _ := hGq.ext (by repeat' (first | (with_reducible exact Ext.refl _) | (with_reducible assumption) | (with_reducible refine Ext.drewN ?_ _) | (with_reducible refine Ext.drew ?_) | (with_reducible refine Ext.alloc ?_ _) | (with_reducible refine Ext.setCell ?_ ?_ _) | (with_reducible refine Ext.setRow ?_ ?_ _) | (with_reducible exact Nat.le_refl _) | (with_reducible refine Ext.trans ?_ (by assumption)) | omega)); have FKW2 := KW2.frozen; have E2 := Ext.cell hx2 (p := ⟨g, p, none⟩) e9))
          all_goals
            go_wp2_with fail
            go_roundw
            case rel =>
              have hM2 := hMq.fresh (w := w2) (by repeat' (first | (with_reducible exact Ext.refl _) | (with_reducible assumption) | (with_reducible refine Ext.drewN ?_ _) | (with_reducible refine Ext.drew ?_) | (with_reducible refine Ext.alloc ?_ _) | (with_reducible refine Ext.setCell ?_ ?_ _) | (with_reducible refine Ext.setRow ?_ ?_ _) | (with_reducible exact Nat.le_refl _) | (with_reducible refine Ext.trans ?_ (by assumption)) | omega)) (g2.mono (Nat.le_refl _)) (by omega) (p := p) (by rw [fallK_len]; simp only []; omega)
              refine ⟨k + 1, by omega, by go_num, Ext.setCell (by repeat' (first | (with_reducible exact Ext.refl _) | (with_reducible assumption) | (with_reducible refine Ext.drewN ?_ _) | (with_reducible refine Ext.drew ?_) | (with_reducible refine Ext.alloc ?_ _) | (with_reducible refine Ext.setCell ?_ ?_ _) | (with_reducible refine Ext.setRow ?_ ?_ _) | (with_reducible exact Nat.le_refl _) | (with_reducible refine Ext.trans ?_ (by assumption)) | omega)) (by omega) _, ?_, ?_⟩
              · exact (hKq.ext (by repeat' (first | (with_reducible exact Ext.refl _) | (with_reducible assumption) | (with_reducible refine Ext.drewN ?_ _) | (with_reducible refine Ext.drew ?_) | (with_reducible refine Ext.alloc ?_ _) | (with_reducible refine Ext.setCell ?_ ?_ _) | (with_reducible refine Ext.setRow ?_ ?_ _) | (with_reducible exact Nat.le_refl _) | (with_reducible refine Ext.trans ?_ (by assumption)) | omega) : Ext wq w2)).far (by simp; omega) _
              · rw [fallK_succ HR.out]
                unfold fallStep
                rw [if_pos (by simp)]
                have hpn : d.At.toNat = p := by rw [HPD.out]; rfl
                rw [hpn]
                exact hM2
            case measure => simp [intOf]; omega
    · obtain rfl : k = l0_1.length := by omega
      have KR := R0.ext he
      have CR := KR.cell
      have FR := KR.frozen
      have CK := hK.cell
      have FK := hK.frozen
      go_wp2_with fail
      refine bodyPost_ret (by simp [results, Try.results53, go_sem, *]; try rfl) rfl ?_
      obtain ⟨ss2, h2, _, _, _⟩ := hM
      refine ⟨_, rfl, ?_, _, _, ss2, [], rfl, ?_, OwnNs.nil _ _ _ _ _, by simp [feet, Value.ownBlock]⟩
      · exact Ext.setCell (Ext.setCell (hE0.trans he) (by omega) _) (by omega) _
      · exact ((h2.far (by omega) _).far (by omega) _).mono (by omega)

end Go.Proofs.Ytankkbjlneeolaa
