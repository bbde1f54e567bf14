/- Numbers read as a state: the program. -/
import Derived.Test.YtemhbbpbmgpcaaaCu2
import Derived.Test.YtemhbbpbmgpcaaaKT
import Derived.Test.YtemhbbpbmgpcaaaP5
set_option linter.unusedSimpArgs false
set_option linter.unusedVariables false
namespace Go.Proofs.Ytemhbbpbmgpcaaa
open Go.RowKit Go.G8

theorem zState (B : Nat) (w : World) : IsState B w (.agg #[.int .i64 0, .int .i64 0, .slice none 0 0, .slice none 0 0, .int .i64 0, .int .i64 0, .int .i64 0]) ⟨0, 0, [], [], ⟨0, 0, 0⟩⟩ := ⟨_, _, rfl, OwnI.nil _ _ _ _, OwnI.nil _ _ _ _⟩
set_option maxHeartbeats 8000000 in
set_option maxRecDepth 100000 in
theorem numbersState_c (w : World) (v : Value) (L : List Int) (hv : Ints 1 w v L) (hl : L.length ≤ 100000000000) :
    Calls Try.prog 39 #[v] w (Ret w fun r w' => (∃ s, parsed L s ∧ ∃ u, r = .tuple #[u, .bool true] ∧ IsState w.heap.size w' u s) ∨ ((∀ s, ¬ parsed L s) ∧ r = .tuple #[.agg #[.int .i64 0, .int .i64 0, .slice none 0 0, .slice none 0 0, .int .i64 0, .int .i64 0, .int .i64 0], .bool false])) := by
  obtain ⟨a, c, rfl, hcap, hm, hat⟩ := hv.one
  clear hat
  obtain ⟨W1, hW1⟩ : ∃ W1, W1 = w.alloc (.cells #[.int .i64 0, .int .i64 0, .slice none 0 0, .slice none 0 0, .int .i64 0, .int .i64 0, .int .i64 0] 37) := ⟨_, rfl⟩
  have hE1 : Ext w W1 := by rw [hW1]; exact (Ext.refl _).alloc _
  have hs1 : W1.heap.size = w.heap.size + 1 := by rw [hW1]; simp
  have R1 : Blk W1 w.heap.size 37 #[.int .i64 0, .int .i64 0, .slice none 0 0, .slice none 0 0, .int .i64 0, .int .i64 0, .int .i64 0] := by rw [hW1]; exact Blk.new _ _ _
  obtain ⟨W2, hW2⟩ : ∃ W2, W2 = W1.alloc (.cells #[.slice a L.length c, .int .i64 0] 80) := ⟨_, rfl⟩
  have hE2 : Ext W1 W2 := by rw [hW2]; exact (Ext.refl _).alloc _
  have K2 : Blk W2 (w.heap.size + 1) 80 #[.slice a L.length c, .int .i64 ((0 : Nat) : Int)] := by rw [hW2, ← hs1]; exact Blk.new _ _ _
  have hs2 : W2.heap.size = w.heap.size + 1 + 1 := by rw [hW2]; simp [hs1]
  have HW1 := Lib.hid hW1; have HW2 := Lib.hid hW2; have HS1 := Lib.hid hs1
  clear hW1 hW2
  have hEw : Ext w W2 := hE1.trans hE2
  go_enter Try.func39, Try.ntmps39
  go_wp2_with fail
  rw [← HW1.out, ← HW2.out]
  by_cases hq1 : 2 ≤ L.length
  rotate_left
  · refine (take_none _ w (w.heap.size + 1) a c L 0 K2 hv hEw (by omega) hl 2 (by omega) (by omega) (by omega)).mono ?_
    rintro e w3 ⟨rfl, hy3⟩
    have U3 : Upd W2 w3 [(w.heap.size + 1)] := hy3
    have E3 : Ext W1 w3 := hE2.upd_below U3 (fun q hq => by simp at hq; omega)
    have KR3 := R1.ext E3
    have hz3 := U3.size
    have EL3 : Ext w w3 := hE1.trans E3
    have CR3 := KR3.cell; have FR3 := KR3.frozen; have LR3 := KR3.lt
    go_wp2_with fail
    refine bodyPost_ret (by simp [results, Try.results39, go_sem, CR3, FR3, LR3]; try rfl) rfl ?_
    refine ⟨_, rfl, ?_, .inr ⟨fun s h => ?_, rfl⟩⟩
    · (repeat (refine Ext.setCell ?_ (Nat.le_refl _) _)); exact hE1.trans E3
    · obtain ⟨g1, g2, g3, g4, g5, g6⟩ := parsed_at h
      omega
  refine (take_some _ w (w.heap.size + 1) a c L 0 K2 hv hEw (by omega) hl 2 (by omega) (by omega)).mono ?_
  rintro e w3 ⟨fa, fn, fc, rfl, o3, K3, hy3⟩
  have U3 : Upd W2 w3 [(w.heap.size + 1)] := hy3
  have E3 : Ext W1 w3 := hE2.upd_below U3 (fun q hq => by simp at hq; omega)
  have KR3 := R1.ext E3
  have hz3 := U3.size
  have EL3 : Ext w w3 := hE1.trans E3
  clear K2
  go_wp2_with fail
  refine (takePairs_c _ w (w.heap.size + 1) a c L 2 K3 hv EL3 (by omega) hl hq1).mono ?_
  rintro e w4 ⟨hy4, hx4⟩
  have U4 : Upd W2 w4 [(w.heap.size + 1)] := U3.trans hy4
  have E4 : Ext W1 w4 := hE2.upd_below U4 (fun q hq => by simp at hq; omega)
  have KR4 := R1.ext E4
  have hz4 := U4.size
  have EL4 : Ext w w4 := hE1.trans E4
  have O4 := OwnI.upd' o3 hy4 (fun k hk hk' => by have := (o3.foot k hk).1; simp at hk'; omega)
  clear K3 o3
  rcases hx4 with ⟨ps, pa, pn, pc, hok, rfl, o4, K4⟩ | ⟨hno, pa, pn, pc, rfl⟩
  rotate_left
  · have CR4 := KR4.cell; have FR4 := KR4.frozen; have LR4 := KR4.lt
    go_wp2_with fail
    refine bodyPost_ret (by simp [results, Try.results39, go_sem, CR4, FR4, LR4]; try rfl) rfl ?_
    refine ⟨_, rfl, ?_, .inr ⟨fun s h => ?_, rfl⟩⟩
    · (repeat (refine Ext.setCell ?_ (Nat.le_refl _) _)); exact hE1.trans E4
    · obtain ⟨g1, g2, g3, g4, g5, g6⟩ := parsed_at h
      exact hno _ g2
  have hpl := okP_len hok
  have HP := Lib.hid hok
  clear hok
  go_wp2_with fail
  refine (takeJobs_c _ w (w.heap.size + 1) a c L (2 + 1 + 2 * ps.length) K4 hv EL4 (by omega) hl hpl).mono ?_
  rintro e w5 ⟨hy5, hx5⟩
  have U5 : Upd W2 w5 [(w.heap.size + 1)] := U4.trans hy5
  have E5 : Ext W1 w5 := hE2.upd_below U5 (fun q hq => by simp at hq; omega)
  have KR5 := R1.ext E5
  have hz5 := U5.size
  have EL5 : Ext w w5 := hE1.trans E5
  have O5 := OwnI.upd' O4 hy5 (fun k hk hk' => by have := (O4.foot k hk).1; simp at hk'; omega)
  have P5 := OwnI.upd' o4 hy5 (fun k hk hk' => by have := (o4.foot k hk).1; simp at hk'; omega)
  clear K4 O4 o4
  rcases hx5 with ⟨js, ja, jn, jc, hok, rfl, o5, K5⟩ | ⟨hno, ja, jn, jc, rfl⟩
  rotate_left
  · have CR5 := KR5.cell; have FR5 := KR5.frozen; have LR5 := KR5.lt
    go_wp2_with fail
    refine bodyPost_ret (by simp [results, Try.results39, go_sem, CR5, FR5, LR5]; try rfl) rfl ?_
    refine ⟨_, rfl, ?_, .inr ⟨fun s h => ?_, rfl⟩⟩
    · (repeat (refine Ext.setCell ?_ (Nat.le_refl _) _)); exact hE1.trans E5
    · obtain ⟨g1, g2, g3, g4, g5, g6⟩ := parsed_at h
      obtain rfl := okP_uniq HP.out g2; exact hno _ (by rw [show 2 + 1 + 2 * s.Pairs.length = 3 + 2 * s.Pairs.length by omega]; exact g3)
  have hjl := okJ_len hok
  have HJ := Lib.hid hok
  obtain ⟨p, hp⟩ : ∃ p, p = 2 + 1 + 2 * ps.length + 1 + 5 * js.length := ⟨_, rfl⟩
  rw [← hp] at K5
  have HPP := Lib.hid hp
  clear hok
  go_wp2_with fail
  by_cases hq6 : p + 3 ≤ L.length
  rotate_left
  · refine (take_none _ w (w.heap.size + 1) a c L p K5 hv EL5 (by omega) hl 3 (by omega) (by omega) (by omega)).mono ?_
    rintro e w6 ⟨rfl, hy6⟩
    have U6 : Upd W2 w6 [(w.heap.size + 1)] := U5.trans hy6
    have E6 : Ext W1 w6 := hE2.upd_below U6 (fun q hq => by simp at hq; omega)
    have KR6 := R1.ext E6
    have hz6 := U6.size
    have EL6 : Ext w w6 := hE1.trans E6
    clear hp
    have CR6 := KR6.cell; have FR6 := KR6.frozen; have LR6 := KR6.lt
    go_wp2_with fail
    refine bodyPost_ret (by simp [results, Try.results39, go_sem, CR6, FR6, LR6]; try rfl) rfl ?_
    refine ⟨_, rfl, ?_, .inr ⟨fun s h => ?_, rfl⟩⟩
    · (repeat (refine Ext.setCell ?_ (Nat.le_refl _) _)); exact hE1.trans E6
    · obtain ⟨g1, g2, g3, g4, g5, g6⟩ := parsed_at h
      obtain rfl := okP_uniq HP.out g2; obtain rfl := okJ_uniq (by have := HJ.out; rw [show 2 + 1 + 2 * s.Pairs.length = 3 + 2 * s.Pairs.length by omega] at this; exact this) g3; have := HPP.out; omega
  refine (take_some _ w (w.heap.size + 1) a c L p K5 hv EL5 (by omega) hl 3 hq6 (by omega)).mono ?_
  rintro e w6 ⟨ha, hn, hc, rfl, o6, K6, hy6⟩
  have U6 : Upd W2 w6 [(w.heap.size + 1)] := U5.trans hy6
  have E6 : Ext W1 w6 := hE2.upd_below U6 (fun q hq => by simp at hq; omega)
  have KR6 := R1.ext E6
  have hz6 := U6.size
  have EL6 : Ext w w6 := hE1.trans E6
  have O6 := OwnI.upd' O5 hy6 (fun k hk hk' => by have := (O5.foot k hk).1; simp at hk'; omega)
  have P6 := OwnI.upd' P5 hy6 (fun k hk hk' => by have := (P5.foot k hk).1; simp at hk'; omega)
  have J6 := OwnI.upd' o5 hy6 (fun k hk hk' => by have := (o5.foot k hk).1; simp at hk'; omega)
  clear K5 O5 P5 o5
  have HPP := Lib.hid hp
  clear hp
  go_wp2_with fail
  refine (done_c _ w (w.heap.size + 1) a c L (p + 3) K6 hv EL6 (by omega) hl (by omega)).mono ?_
  rintro e w7 ⟨rfl, hx7⟩
  have hy7 : Upd w6 w7 [(w.heap.size + 1)] := hx7.upd _
  have U7 : Upd W2 w7 [(w.heap.size + 1)] := U6.trans hy7
  have E7 : Ext W1 w7 := hE2.upd_below U7 (fun q hq => by simp at hq; omega)
  have KR7 := R1.ext E7
  have hz7 := U7.size
  have EL7 : Ext w w7 := hE1.trans E7
  have O7 := OwnI.ext O6 hx7
  have P7 := OwnI.ext P6 hx7
  have J7 := OwnI.ext J6 hx7
  have L7 := OwnI.ext o6 hx7
  clear O6 P6 J6 o6 K6
  by_cases hq7 : p + 3 = L.length
  rotate_left
  · rw [show decide (p + 3 = L.length) = false by simp [hq7]]
    have HQ7 := Lib.hid hq7
    clear hq7
    have CR7 := KR7.cell; have FR7 := KR7.frozen; have LR7 := KR7.lt
    go_wp2_with fail
    refine bodyPost_ret (by simp [results, Try.results39, go_sem, CR7, FR7, LR7]; try rfl) rfl ?_
    refine ⟨_, rfl, ?_, .inr ⟨fun s h => ?_, rfl⟩⟩
    · (repeat (refine Ext.setCell ?_ (Nat.le_refl _) _)); exact hE1.trans E7
    · obtain ⟨g1, g2, g3, g4, g5, g6⟩ := parsed_at h
      obtain rfl := okP_uniq HP.out g2; obtain rfl := okJ_uniq (by have := HJ.out; rw [show 2 + 1 + 2 * s.Pairs.length = 3 + 2 * s.Pairs.length by omega] at this; exact this) g3; have := HPP.out; have := HQ7.out; omega
  rw [show decide (p + 3 = L.length) = true by simp [hq7]]
  obtain ⟨x0, hx0⟩ : ∃ x, L[0]? = some x := ⟨_, List.getElem?_eq_getElem (by omega)⟩
  obtain ⟨x1, hx1⟩ : ∃ x, L[1]? = some x := ⟨_, List.getElem?_eq_getElem (by omega)⟩
  have ht2 : (L.take (0 + 2)).drop 0 = [x0, x1] := by
    rw [List.drop_zero, Nat.zero_add, List.take_add_one, List.take_add_one, List.take_zero, hx0, hx1]; rfl
  rw [ht2] at O7
  have hdl : (L.drop p).length = 3 := by rw [List.length_drop]; omega
  obtain ⟨y0, y1, y2, hy⟩ : ∃ y0 y1 y2, L.drop p = [y0, y1, y2] := by
    match L.drop p, hdl with
    | [y0, y1, y2], _ => exact ⟨y0, y1, y2, rfl⟩
  have htl : (L.take (p + 3)).drop p = [y0, y1, y2] := by rw [hq7, List.take_length, hy]
  rw [htl] at L7
  have hnum : stateNums ⟨x0, x1, ps, js, ⟨y0, y1, y2⟩⟩ = L := parsed_of hx0 hx1 HP.out (by have := HJ.out; rw [show 2 + 1 + 2 * ps.length = 3 + 2 * ps.length by omega] at this; exact this) (by rw [← hy]; congr 1; have := HPP.out; omega)
  have HNUM := Lib.hid hnum
  clear hnum hy htl hdl ht2 hx0 hx1 hq7
  obtain ⟨_, _, e8, _, _, hat8⟩ := O7.ints.one
  injection e8 with e81 e82 e83; subst e81; subst e83
  obtain ⟨_, _, e9, _, _, hat9⟩ := L7.ints.one
  injection e9 with e91 e92 e93; subst e91; subst e93
  simp only [List.length_cons, List.length_nil, Nat.zero_add, Nat.reduceAdd] at e82 e92
  subst e82; subst e92
  obtain ⟨_, b1, q1, r0, rfl, _, c0⟩ := hat8 0 (by simp)
  obtain ⟨_, b1', q1', r1, r2, _, c1⟩ := hat8 1 (by simp)
  injection r2 with r2; injection r2 with r2 r3; subst r2; subst r3
  obtain ⟨_, b2, q2, s0, rfl, _, d0⟩ := hat9 0 (by simp)
  obtain ⟨_, b2', q2', s1, s2, _, d1⟩ := hat9 1 (by simp)
  injection s2 with s2; injection s2 with s2 s3; subst s2; subst s3
  obtain ⟨_, b2', q2', s4, s5, _, d2⟩ := hat9 2 (by simp)
  injection s5 with s5; injection s5 with s5 s6; subst s5; subst s6
  simp only [List.getElem?_cons_zero, List.getElem?_cons_succ, Option.some.injEq] at r0 r1 s0 s1 s4
  subst r0; subst r1; subst s0; subst s1; subst s4
  simp only [Nat.add_zero] at c0 d0
  clear hat8 hat9
  go_wp2_with fail
  go_region_held3 (fun w' => w'.cell? ⟨b1, q1, none⟩ = some (.int .i64 x0) ∧ w'.cell? ⟨b1, q1 + 1, none⟩ = some (.int .i64 x1) ∧ w'.cell? ⟨b2, q2, none⟩ = some (.int .i64 y0) ∧ w'.cell? ⟨b2, q2 + 1, none⟩ = some (.int .i64 y1) ∧ w'.cell? ⟨b2, q2 + 2, none⟩ = some (.int .i64 y2)) (first | (refine ⟨Ext.cell (w := w7) ?_ c0, Ext.cell (w := w7) ?_ c1, Ext.cell (w := w7) ?_ d0, Ext.cell (w := w7) ?_ d1, Ext.cell (w := w7) ?_ d2⟩ <;> (repeat' (first | (with_reducible exact Ext.refl _) | (with_reducible assumption) | (with_reducible refine Ext.drewN ?_ _) | (with_reducible refine Ext.drew ?_) | (with_reducible refine Ext.alloc ?_ _) | (with_reducible refine Ext.setCell ?_ ?_ _) | (with_reducible refine Ext.setRow ?_ ?_ _) | (with_reducible exact Nat.le_refl _) | (with_reducible refine Ext.trans ?_ (by assumption)) | omega)); done)) (fail)
  all_goals
    go_wp2_with fail
    refine (stateOk_c _ x0 x1 _ ps _ js y0 y1 y2 ((OwnI.ints P7).ext (by repeat' (first | (with_reducible exact Ext.refl _) | (with_reducible assumption) | (with_reducible refine Ext.drewN ?_ _) | (with_reducible refine Ext.drew ?_) | (with_reducible refine Ext.alloc ?_ _) | (with_reducible refine Ext.setCell ?_ ?_ _) | (with_reducible refine Ext.setRow ?_ ?_ _) | (with_reducible exact Nat.le_refl _) | (with_reducible refine Ext.trans ?_ (by assumption)) | omega))) ((OwnI.ints J7).ext (by repeat' (first | (with_reducible exact Ext.refl _) | (with_reducible assumption) | (with_reducible refine Ext.drewN ?_ _) | (with_reducible refine Ext.drew ?_) | (with_reducible refine Ext.alloc ?_ _) | (with_reducible refine Ext.setCell ?_ ?_ _) | (with_reducible refine Ext.setRow ?_ ?_ _) | (with_reducible exact Nat.le_refl _) | (with_reducible refine Ext.trans ?_ (by assumption)) | omega)))).mono ?_
    rintro e w8 ⟨rfl, hx8⟩
    have B8 : Blk w8 w7.heap.size 37 _ := Blk.ext (by repeat' (first | (with_reducible assumption) | (with_reducible exact Blk.new _ _ _) | (with_reducible exact Blk.new2 _ _ _ _) | (with_reducible exact Blk.new3 _ _ _ _ _) | (with_reducible apply Blk.drew) | (with_reducible apply Blk.drewN) | (with_reducible apply Blk.alloc) | (with_reducible apply Blk.set_) | (with_reducible apply Blk.row) | (with_reducible apply Blk.far) | (with_reducible apply Blk.rowFar) | omega | (simp; omega))) hx8
    (try simp only [List.setIfInBounds_toArray, List.set_cons_zero, List.set_cons_succ] at B8)
    have X8 : Ext w7 w8 := Ext.trans (by repeat' (first | (with_reducible exact Ext.refl _) | (with_reducible assumption) | (with_reducible refine Ext.drewN ?_ _) | (with_reducible refine Ext.drew ?_) | (with_reducible refine Ext.alloc ?_ _) | (with_reducible refine Ext.setCell ?_ ?_ _) | (with_reducible refine Ext.setRow ?_ ?_ _) | (with_reducible exact Nat.le_refl _) | (with_reducible refine Ext.trans ?_ (by assumption)) | omega)) hx8
    have E8 : Ext W1 w8 := E7.trans X8
    have KR8 := R1.ext E8
    have CR8 := KR8.cell; have FR8 := KR8.frozen; have LR8 := KR8.lt
    have CB8 := B8.cell; have LB8 := B8.lt
    have hz8 := X8.size
    have hne : w.heap.size ≠ w7.heap.size := by omega
    cases hok : stateOk ⟨x0, x1, ps, js, ⟨y0, y1, y2⟩⟩
    · go_wp2_with fail
      refine bodyPost_ret (by simp [results, Try.results39, go_sem, CR8, FR8, LR8]; try rfl) rfl ?_
      refine ⟨_, rfl, ?_, .inr ⟨fun s h => ?_, rfl⟩⟩
      · (repeat (refine Ext.setCell ?_ (Nat.le_refl _) _)); exact hE1.trans E8
      · obtain rfl := stateNums_inj (h.2.trans HNUM.out.symm)
        rw [h.1] at hok
        cases hok
    · have HOK := Lib.hid hok
      clear hok
      go_wp2_with fail
      refine bodyPost_ret (by simp [results, Try.results39, go_sem, CR8, FR8, LR8]; try rfl) rfl ?_
      refine ⟨_, rfl, ?_, .inl ⟨_, ⟨HOK.out, HNUM.out⟩, _, rfl, _, _, rfl, OwnI.mono (OwnI.keep (OwnI.ext P7 X8) (by repeat' (first | (with_reducible exact Chg.refl _ _) | (with_reducible refine Chg.drewN ?_ _) | (with_reducible refine Chg.drew ?_) | (with_reducible refine Chg.alloc ?_ _) | (with_reducible refine Chg.setLow ?_ (by omega) _) | (with_reducible refine Chg.setNew ?_ (by omega) _) | (with_reducible refine Chg.setRow ?_ (by omega) _) | (with_reducible refine Chg.ext ?_ (by assumption)) | omega))) (by omega), OwnI.mono (OwnI.keep (OwnI.ext J7 X8) (by repeat' (first | (with_reducible exact Chg.refl _ _) | (with_reducible refine Chg.drewN ?_ _) | (with_reducible refine Chg.drew ?_) | (with_reducible refine Chg.alloc ?_ _) | (with_reducible refine Chg.setLow ?_ (by omega) _) | (with_reducible refine Chg.setNew ?_ (by omega) _) | (with_reducible refine Chg.setRow ?_ (by omega) _) | (with_reducible refine Chg.ext ?_ (by assumption)) | omega))) (by omega)⟩⟩
      (repeat (refine Ext.setCell ?_ (Nat.le_refl _) _)); exact hE1.trans E8

end Go.Proofs.Ytemhbbpbmgpcaaa
