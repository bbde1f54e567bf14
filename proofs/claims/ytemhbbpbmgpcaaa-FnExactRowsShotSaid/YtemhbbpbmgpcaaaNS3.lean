/- Numbers read as a state: the reference. -/
import Derived.Test.YtemhbbpbmgpcaaaNS2
import Derived.Test.YtemhbbpbmgpcaaaKT
import Derived.Test.YtemhbbpbmgpcaaaP5
import Derived.Test.YtemhbbpbmgpcaaaQ4
set_option linter.unusedSimpArgs false
set_option linter.unusedVariables false
namespace Go.Proofs.Ytemhbbpbmgpcaaa
open Go.RowKit Go.G8

end Go.Proofs.Ytemhbbpbmgpcaaa
namespace Go.G8
open Go.RowKit Go.Proofs.Ytemhbbpbmgpcaaa
def leaseIf (l : DLease) : DLease := if leaseOk l then l else ⟨0, 0, 0⟩
end Go.G8
namespace Go.Proofs.Ytemhbbpbmgpcaaa
open Go.RowKit Go.G8
set_option maxHeartbeats 8000000 in
set_option maxRecDepth 100000 in
theorem sRowLease_c (w : World) (v : Value) (x y z : Int) (h : Ints 1 w v [x, y, z]) :
    Calls Try.prog 71 #[v] w (RetV w (.tuple #[.agg #[.int .i64 (leaseIf ⟨x, y, z⟩).Holder, .int .i64 (leaseIf ⟨x, y, z⟩).Epoch, .int .i64 (leaseIf ⟨x, y, z⟩).Until], .bool (leaseOk ⟨x, y, z⟩)])) := by
  obtain ⟨a, c, rfl, hcap, hm, hat⟩ := h.one
  obtain ⟨_, b1, q1, r0, rfl, _, c0⟩ := hat 0 (by simp)
  obtain ⟨_, b1', q1', r1, r2, _, c1⟩ := hat 1 (by simp)
  injection r2 with r2; injection r2 with r2 r3; subst r2; subst r3
  obtain ⟨_, b1', q1', r4, r5, _, c2⟩ := hat 2 (by simp)
  injection r5 with r5; injection r5 with r5 r6; subst r5; subst r6
  simp only [List.getElem?_cons_zero, List.getElem?_cons_succ, Option.some.injEq] at r0 r1 r4
  subst r0; subst r1; subst r4
  simp only [Nat.add_zero] at c0
  simp only [List.length_cons, List.length_nil, Nat.zero_add, Nat.reduceAdd] at hcap ⊢
  clear hat h
  have hx0 : Ext w (w.alloc (.cells #[.int .i64 0, .int .i64 0, .int .i64 0] 35)) := (Ext.refl _).alloc _
  have R0 : Blk (w.alloc (.cells #[.int .i64 0, .int .i64 0, .int .i64 0] 35)) w.heap.size 35 #[.int .i64 0, .int .i64 0, .int .i64 0] := Blk.new _ _ _
  go_enter Try.func71, Try.ntmps71
  go_wp2_with fail
  go_region_held3 (fun w' => w'.cell? ⟨b1, q1, none⟩ = some (.int .i64 x) ∧ w'.cell? ⟨b1, q1 + 1, none⟩ = some (.int .i64 y) ∧ w'.cell? ⟨b1, q1 + 2, none⟩ = some (.int .i64 z)) (first | (refine ⟨Ext.cell (w := w) ?_ c0, Ext.cell (w := w) ?_ c1, Ext.cell (w := w) ?_ c2⟩ <;> (repeat' (first | (with_reducible exact Ext.refl _) | (with_reducible assumption) | (with_reducible refine Ext.drewN ?_ _) | (with_reducible refine Ext.drew ?_) | (with_reducible refine Ext.alloc ?_ _) | (with_reducible refine Ext.setCell ?_ ?_ _) | (with_reducible refine Ext.setRow ?_ ?_ _) | (with_reducible exact Nat.le_refl _) | (with_reducible refine Ext.trans ?_ (by assumption)) | omega)); done)) (fail)
  all_goals
    go_wp2_with fail
    refine (sLeaseOk_c _ x y z).mono ?_
    rintro e w8 ⟨rfl, hx8⟩
    have B8 : Blk w8 (w.heap.size + 1) 35 _ := Blk.ext (by repeat' (first | (with_reducible assumption) | (with_reducible exact Blk.new _ _ _) | (with_reducible exact Blk.new2 _ _ _ _) | (with_reducible exact Blk.new3 _ _ _ _ _) | (with_reducible apply Blk.drew) | (with_reducible apply Blk.drewN) | (with_reducible apply Blk.alloc) | (with_reducible apply Blk.set_) | (with_reducible apply Blk.row) | (with_reducible apply Blk.far) | (with_reducible apply Blk.rowFar) | omega | (simp; omega))) hx8
    (try simp only [List.setIfInBounds_toArray, List.set_cons_zero, List.set_cons_succ] at B8)
    have X8 : Ext (w.alloc (.cells #[.int .i64 0, .int .i64 0, .int .i64 0] 35)) w8 := Ext.trans (by repeat' (first | (with_reducible exact Ext.refl _) | (with_reducible assumption) | (with_reducible refine Ext.drewN ?_ _) | (with_reducible refine Ext.drew ?_) | (with_reducible refine Ext.alloc ?_ _) | (with_reducible refine Ext.setCell ?_ ?_ _) | (with_reducible refine Ext.setRow ?_ ?_ _) | (with_reducible exact Nat.le_refl _) | (with_reducible refine Ext.trans ?_ (by assumption)) | omega)) hx8
    have KR8 := R0.ext X8
    have CR8 := KR8.cell; have FR8 := KR8.frozen; have LR8 := KR8.lt
    have CB8 := B8.cell; have LB8 := B8.lt
    cases hok : leaseOk ⟨x, y, z⟩
    · have e9 : leaseIf ⟨x, y, z⟩ = ⟨0, 0, 0⟩ := by simp [leaseIf, hok]
      have HE := Lib.hid e9; have HK := Lib.hid hok
      clear e9 hok
      go_wp2_with fail
      refine bodyPost_ret (by simp [results, Try.results71, go_sem, CR8, FR8, LR8, LB8]; try rfl) rfl ?_
      refine ⟨by rw [HE.out, HK.out], ?_⟩
      (repeat (refine Ext.setCell ?_ (Nat.le_refl _) _)); exact hx0.trans X8
    · have e9 : leaseIf ⟨x, y, z⟩ = ⟨x, y, z⟩ := by simp [leaseIf, hok]
      have HE := Lib.hid e9; have HK := Lib.hid hok
      clear e9 hok
      go_wp2_with fail
      refine bodyPost_ret (by simp [results, Try.results71, go_sem, CR8, FR8, LR8, LB8]; try rfl) rfl ?_
      refine ⟨by rw [HE.out, HK.out], ?_⟩
      (repeat (refine Ext.setCell ?_ (Nat.le_refl _) _)); exact hx0.trans X8
set_option maxHeartbeats 8000000 in
set_option maxRecDepth 100000 in
theorem sNumbersState_c (w : World) (v : Value) (L : List Int) (hv : Ints 1 w v L) (hl : L.length ≤ 100000) :
    Calls Try.prog 35 #[v] w (Ret w fun r w' => (∃ s, parsed L s ∧ ∃ u, r = .tuple #[u, .bool true] ∧ IsState w.heap.size w' u s) ∨ ((∀ s, ¬ parsed L s) ∧ r = .tuple #[.agg #[.int .i64 0, .int .i64 0, .slice none 0 0, .slice none 0 0, .int .i64 0, .int .i64 0, .int .i64 0], .bool false])) := by
  obtain ⟨a, c, rfl, hcap, hm, hat⟩ := hv.one
  unfold maxLen at hm
  have E1 : Ext w (w.alloc (.cells #[.int .i64 0, .int .i64 0, .slice none 0 0, .slice none 0 0, .int .i64 0, .int .i64 0, .int .i64 0] 37)) := (Ext.refl _).alloc _
  have KR1 : Blk (w.alloc (.cells #[.int .i64 0, .int .i64 0, .slice none 0 0, .slice none 0 0, .int .i64 0, .int .i64 0, .int .i64 0] 37)) w.heap.size 37 #[.int .i64 0, .int .i64 0, .slice none 0 0, .slice none 0 0, .int .i64 0, .int .i64 0, .int .i64 0] := Blk.new _ _ _
  obtain ⟨N, hN⟩ : ∃ N, N = L.length := ⟨_, rfl⟩
  rw [← hN] at hcap hl hat ⊢
  have HV := Lib.hid hv
  rw [← hN] at hv
  have HN := Lib.hid hN
  clear hN
  by_cases hA1 : (N : Int) < 7
  · have HA := Lib.hid hA1
    clear hat
    go_enter Try.func35, Try.ntmps35
    have CR1 := KR1.cell; have FR1 := KR1.frozen; have LR1 := KR1.lt
    go_wp2_with fail
    refine bodyPost_ret (by simp [results, Try.results35, go_sem, CR1, FR1, LR1]; try rfl) rfl ?_
    refine ⟨_, rfl, ?_, .inr ⟨fun s h => ?_, rfl⟩⟩
    · (repeat (refine Ext.setCell ?_ (Nat.le_refl _) _)); exact E1
    · obtain ⟨g1, g2, g3, g4, g5, g6⟩ := parsed_at h
      have g7 := stateNums_bound h.1
      rw [h.2] at g7
      have := HN.out; have := HA.out; omega
  by_cases hA2 : (67 : Int) < (N : Int)
  · have HA := Lib.hid hA2
    have hA3 : decide ((N : Int) < 7) = false := by simp; omega
    clear hat
    go_enter Try.func35, Try.ntmps35
    have CR1 := KR1.cell; have FR1 := KR1.frozen; have LR1 := KR1.lt
    go_wp2_with fail
    refine bodyPost_ret (by simp [results, Try.results35, go_sem, CR1, FR1, LR1]; try rfl) rfl ?_
    refine ⟨_, rfl, ?_, .inr ⟨fun s h => ?_, rfl⟩⟩
    · (repeat (refine Ext.setCell ?_ (Nat.le_refl _) _)); exact E1
    · obtain ⟨g1, g2, g3, g4, g5, g6⟩ := parsed_at h
      have g7 := stateNums_bound h.1
      rw [h.2] at g7
      have := HN.out; have := HA.out; omega
  have hN7 : 7 ≤ N := by omega
  obtain ⟨x2, b1, q1, hx2, rfl, hb1, c2⟩ := hat 2 (by omega)
  obtain ⟨x0, b1', q1', hx0, r2, _, c0⟩ := hat 0 (by omega)
  injection r2 with r2; injection r2 with r2 r3; subst r2; subst r3
  obtain ⟨x1, b1', q1', hx1, r2, _, c1⟩ := hat 1 (by omega)
  injection r2 with r2; injection r2 with r2 r3; subst r2; subst r3
  simp only [Nat.add_zero] at c0
  have HAT := Lib.hid hat
  have H0 := Lib.hid hx0; have H1 := Lib.hid hx1; have H2 := Lib.hid hx2
  clear hat hx0 hx1 hx2
  have k2 : (w.alloc (.cells #[.int .i64 0, .int .i64 0, .slice none 0 0, .slice none 0 0, .int .i64 0, .int .i64 0, .int .i64 0] 37)).cell? ⟨b1, q1 + 2, none⟩ = some (.int .i64 x2) := E1.cell c2
  go_enter Try.func35, Try.ntmps35
  go_wp2_with fail
  refine (l1In_c _ x2 0 10).mono ?_
  rintro e w' ⟨rfl, rfl⟩
  cases hi2 : inb x2 0 10
  · have HI := Lib.hid hi2
    clear hi2
    have CR1 := KR1.cell; have FR1 := KR1.frozen; have LR1 := KR1.lt
    go_wp2_with fail
    refine bodyPost_ret (by simp [results, Try.results35, go_sem, CR1, FR1, LR1]; try rfl) rfl ?_
    refine ⟨_, rfl, ?_, .inr ⟨fun s h => ?_, rfl⟩⟩
    · (repeat (refine Ext.setCell ?_ (Nat.le_refl _) _)); exact E1
    · obtain ⟨g1, g2, g3, g4, g5, g6⟩ := parsed_at h
      have g7 := stateNums_bound h.1
      rw [h.2] at g7
      have h8 := g2.1; rw [H2.out] at h8; have h8 := Option.some.inj h8; have h9 := g2.2.1; have h7 := HI.out; rw [h8, inb_of (by omega) (by omega)] at h7; exact Bool.noConfusion h7
  obtain ⟨h20, h21⟩ := inb_true.1 hi2
  obtain ⟨P, rfl⟩ := Int.eq_ofNat_of_zero_le h20
  obtain ⟨m, hm'⟩ : ∃ m : Nat, m = 3 + 2 * P := ⟨_, rfl⟩
  have hmI : 3 + 2 * (P : Int) = (m : Int) := by omega
  have hml : m ≤ 100 := by omega
  have hP10 : P ≤ 10 := by omega
  have HM := Lib.hid hm'
  clear hi2 h20 hm'
  by_cases hmn : (m : Int) < (N : Int)
  rotate_left
  · have HMN := Lib.hid hmn
    clear hmn
    have hmn' : (N : Int) ≤ (m : Int) := by have := HMN.out; omega
    have CR1 := KR1.cell; have FR1 := KR1.frozen; have LR1 := KR1.lt
    go_wp2_with fail
    refine bodyPost_ret (by simp [results, Try.results35, go_sem, CR1, FR1, LR1]; try rfl) rfl ?_
    refine ⟨_, rfl, ?_, .inr ⟨fun s h => ?_, rfl⟩⟩
    · (repeat (refine Ext.setCell ?_ (Nat.le_refl _) _)); exact E1
    · obtain ⟨g1, g2, g3, g4, g5, g6⟩ := parsed_at h
      have g7 := stateNums_bound h.1
      rw [h.2] at g7
      have h8 := g2.1; rw [H2.out] at h8; have h8 := Option.some.inj h8; have := HM.out; have := HMN.out; have := HN.out; have := okJ_len g3; omega
  have hmn2 : m < N := by omega
  obtain ⟨y, b1', q1', hy, r2, _, cm⟩ := HAT.out m hmn2
  injection r2 with r2; injection r2 with r2 r3; subst r2; subst r3
  have km : (w.alloc (.cells #[.int .i64 0, .int .i64 0, .slice none 0 0, .slice none 0 0, .int .i64 0, .int .i64 0, .int .i64 0] 37)).cell? ⟨b1, q1 + m, none⟩ = some (.int .i64 y) := E1.cell cm
  have HY := Lib.hid hy
  clear hy
  go_wp2_with fail
  refine (l1In_c _ y 0 8).mono ?_
  rintro e w' ⟨rfl, rfl⟩
  cases hiy : inb y 0 8
  · have HI := Lib.hid hiy
    clear hiy
    have CR1 := KR1.cell; have FR1 := KR1.frozen; have LR1 := KR1.lt
    go_wp2_with fail
    refine bodyPost_ret (by simp [results, Try.results35, go_sem, CR1, FR1, LR1]; try rfl) rfl ?_
    refine ⟨_, rfl, ?_, .inr ⟨fun s h => ?_, rfl⟩⟩
    · (repeat (refine Ext.setCell ?_ (Nat.le_refl _) _)); exact E1
    · obtain ⟨g1, g2, g3, g4, g5, g6⟩ := parsed_at h
      have g7 := stateNums_bound h.1
      rw [h.2] at g7
      have h8 := g2.1; rw [H2.out] at h8; have h8 := Option.some.inj h8; have h10 := g3.1; rw [show 3 + 2 * s.Pairs.length = m by have := HM.out; omega, HY.out] at h10; have h10 := Option.some.inj h10; have h9 := g3.2.1; have h7 := HI.out; rw [h10, inb_of (by omega) (by omega)] at h7; exact Bool.noConfusion h7
  obtain ⟨hy0, hy1⟩ := inb_true.1 hiy
  obtain ⟨J, rfl⟩ := Int.eq_ofNat_of_zero_le hy0
  obtain ⟨z, hz⟩ : ∃ z : Nat, z = m + 1 + 5 * J + 3 := ⟨_, rfl⟩
  obtain ⟨j5, hj5⟩ : ∃ j5 : Nat, j5 = 5 * J := ⟨_, rfl⟩
  have hj5I : 5 * (J : Int) = (j5 : Int) := by omega
  have hj5l : j5 ≤ 40 := by omega
  have hzI : (m : Int) + 1 + (j5 : Int) + 3 = (z : Int) := by omega
  have hzl : z ≤ 1000 := by omega
  have hJ8 : J ≤ 8 := by omega
  have HZ := Lib.hid hz; have HJ5 := Lib.hid hj5
  clear hiy hy0 hz hj5
  by_cases hzn : z = N
  rotate_left
  · have HZN := Lib.hid hzn
    have hzb : ((z : Int) == (N : Int)) = false := by simp; omega
    have hzb3 : ((z : Int) != (N : Int)) = true := by simp; omega
    have CR1 := KR1.cell; have FR1 := KR1.frozen; have LR1 := KR1.lt
    go_wp2_with fail
    refine bodyPost_ret (by simp [results, Try.results35, go_sem, CR1, FR1, LR1]; try rfl) rfl ?_
    refine ⟨_, rfl, ?_, .inr ⟨fun s h => ?_, rfl⟩⟩
    · (repeat (refine Ext.setCell ?_ (Nat.le_refl _) _)); exact E1
    · obtain ⟨g1, g2, g3, g4, g5, g6⟩ := parsed_at h
      have g7 := stateNums_bound h.1
      rw [h.2] at g7
      have h8 := g2.1; rw [H2.out] at h8; have h8 := Option.some.inj h8; have h10 := g3.1; rw [show 3 + 2 * s.Pairs.length = m by have := HM.out; omega, HY.out] at h10; have h10 := Option.some.inj h10; have := HZ.out; have := HZN.out; have := HN.out; have := HM.out; omega
  obtain ⟨ps, hok, hpl⟩ := okP_of (L := L) (p := 2) (n := P) H2.out hP10 (by have := HM.out; have := HN.out; omega)
  obtain ⟨js, hokj, hjl⟩ := okJ_of (L := L) (p := m) (n := J) HY.out hJ8 (by have := HZ.out; have := HN.out; omega)
  obtain ⟨q3, hq3⟩ : ∃ q3 : Nat, q3 = N - 3 := ⟨_, rfl⟩
  have hq3I : (N : Int) - 3 = (q3 : Int) := by omega
  have hmq : m ≤ q3 := by have := HZ.out; omega
  have hq3N : q3 ≤ N := by omega
  have hR1 : (L.take m).drop 2 = (ps.length : Int) :: flPair ps := by
    rw [List.drop_take, drop_at H2.out, hpl, show m - 2 = (2 * P) + 1 by have := HM.out; omega, List.take_succ_cons, ← hok.2.2, hpl]
  have hR2 : (L.take q3).drop m = (js.length : Int) :: flJob js := by
    rw [List.drop_take, drop_at HY.out, hjl, show q3 - m = (5 * J) + 1 by have := HZ.out; omega, List.take_succ_cons, ← hokj.2.2, hjl]
  have hdl : (L.drop q3).length = 3 := by rw [List.length_drop]; have := HN.out; omega
  obtain ⟨y0, y1, y2, hy⟩ : ∃ y0 y1 y2, L.drop q3 = [y0, y1, y2] := by
    match L.drop q3, hdl with
    | [y0, y1, y2], _ => exact ⟨y0, y1, y2, rfl⟩
  have hR3 : (L.take N).drop q3 = [y0, y1, y2] := by rw [HN.out, List.take_length, hy]
  have hnum : stateNums ⟨x0, x1, ps, js, ⟨y0, y1, y2⟩⟩ = L := parsed_of H0.out H1.out hok (by rw [show 3 + 2 * ps.length = m by have := HM.out; omega]; exact hokj) (by rw [← hy]; congr 1; have := HZ.out; have := HM.out; omega)
  have hv2 := HV.out
  rw [← HN.out] at hv2
  have HS1 := hv2.sliced (l := 2) (m := m) (by have := HM.out; omega) (by omega)
  have HS2 := hv2.sliced (l := m) (m := q3) hmq hq3N
  have HS3 := hv2.sliced (l := q3) (m := N) hq3N (Nat.le_refl _)
  have hc2 : c ≠ 2 := by omega
  have hcm : c ≠ m := by omega
  have hcq : c ≠ q3 := by omega
  simp only [Go.sliced, if_neg hc2, if_neg hcm, if_neg hcq, Nat.mul_one, Option.map_some, add_lit0] at HS1 HS2 HS3
  rw [hR1] at HS1; rw [hR2] at HS2; rw [hR3] at HS3
  have hps : ps.length ≤ 10 := by omega
  have hjs : js.length ≤ 8 := by omega
  have hqm2 : (m : Int) ≤ (q3 : Int) := by omega
  have hqc : (q3 : Int) ≤ (c : Int) := by omega
  have hqN : (q3 : Int) ≤ (N : Int) := by omega
  have HS1 := Lib.hid HS1; have HS2 := Lib.hid HS2; have HS3 := Lib.hid HS3
  have HNUM := Lib.hid hnum
  clear hok hokj hpl hjl hq3 hR1 hR2 hR3 hy hdl hnum hv2 hv
  go_wp2_with fail
  refine (sRowPairs_c _ _ ps (HS1.out.ext E1) hps).mono ?_
  rintro e w2 ⟨_, rfl, hx2, pa, pn, pc, rfl, o2⟩
  have E2 := E1.trans hx2
  have KR2 := KR1.ext hx2
  go_wp2_with fail
  refine (sRowOrders_c _ _ js (HS2.out.ext E2) hjs).mono ?_
  rintro e w3 ⟨_, rfl, hx3, ja, jn, jc, rfl, o3⟩
  have E3 := E2.trans hx3
  have KR3 := KR2.ext hx3
  go_wp2_with fail
  refine (sRowLease_c _ _ y0 y1 y2 (HS3.out.ext E3)).mono ?_
  rintro e w4 ⟨rfl, hx4⟩
  have E4 := E3.trans hx4
  have KR4 := KR3.ext hx4
  obtain ⟨le, hle⟩ : ∃ le, le = leaseIf ⟨y0, y1, y2⟩ := ⟨_, rfl⟩
  rw [← hle]
  have HLE := Lib.hid hle
  clear hle k2 km
  go_wp2_with fail
  obtain ⟨W5, hW5⟩ : ∃ W5, W5 = w4.alloc (.cells #[.int .i64 le.Holder, .int .i64 le.Epoch, .int .i64 le.Until] 35) := ⟨_, rfl⟩
  have X5 : Ext w4 W5 := by rw [hW5]; exact (Ext.refl _).alloc _
  have B5 : Blk W5 w4.heap.size 35 #[.int .i64 le.Holder, .int .i64 le.Epoch, .int .i64 le.Until] := by rw [hW5]; exact Blk.new _ _ _
  have hs5 : W5.heap.size = w4.heap.size + 1 := by rw [hW5]; simp
  rw [← hW5]
  clear hW5
  have E5 := E4.trans X5
  have KR5 := KR4.ext X5
  have Y25 : Ext w2 W5 := (hx3.trans hx4).trans X5
  have Y35 : Ext w3 W5 := hx4.trans X5
  have d0 := E5.cell c0; have d1 := E5.cell c1
  have l0 : W5.cell? ⟨w4.heap.size, 0, none⟩ = some (.int .i64 le.Holder) := B5.cell 0
  have l1 : W5.cell? ⟨w4.heap.size, 1, none⟩ = some (.int .i64 le.Epoch) := B5.cell 1
  have l2 : W5.cell? ⟨w4.heap.size, 2, none⟩ = some (.int .i64 le.Until) := B5.cell 2
  have LB5 := B5.lt
  have LR5 := KR5.lt
  have h0N : (0 : Int) < (N : Int) := by omega
  have h1N : (1 : Int) < (N : Int) := by omega
  have h0N' : 0 < N := by omega
  have h1N' : 1 < N := by omega
  have HS5 := Lib.hid hs5
  clear hs5 HS1 HS2 HS3
  go_region_held3 (fun w' => w'.cell? ⟨b1, q1, none⟩ = some (.int .i64 x0) ∧ w'.cell? ⟨b1, q1 + 1, none⟩ = some (.int .i64 x1) ∧ w'.cell? ⟨w4.heap.size, 0, none⟩ = some (.int .i64 le.Holder) ∧ w'.cell? ⟨w4.heap.size, 1, none⟩ = some (.int .i64 le.Epoch) ∧ w'.cell? ⟨w4.heap.size, 2, none⟩ = some (.int .i64 le.Until)) (first | (refine ⟨Ext.cell (w := W5) ?_ d0, Ext.cell (w := W5) ?_ d1, Ext.cell (w := W5) ?_ l0, Ext.cell (w := W5) ?_ l1, Ext.cell (w := W5) ?_ l2⟩ <;> (repeat' (first | (with_reducible exact Ext.refl _) | (with_reducible assumption) | (with_reducible refine Ext.drewN ?_ _) | (with_reducible refine Ext.drew ?_) | (with_reducible refine Ext.alloc ?_ _) | (with_reducible refine Ext.setCell ?_ ?_ _) | (with_reducible refine Ext.setRow ?_ ?_ _) | (with_reducible exact Nat.le_refl _) | (with_reducible refine Ext.trans ?_ (by assumption)) | omega)); done)) (fail)
  all_goals
    have CR5 := KR5.cell; have FR5 := KR5.frozen
    cases hp : pairsOk ps
    · have HP := Lib.hid hp
      clear hp
      go_wp2_with fail
      refine bodyPost_ret (by simp [results, Try.results35, go_sem, CR5, FR5, LR5]; try rfl) rfl ?_
      refine ⟨_, rfl, ?_, .inr ⟨fun s h => ?_, rfl⟩⟩
      · repeat' (first | (with_reducible exact Ext.refl _) | (with_reducible assumption) | (with_reducible refine Ext.drewN ?_ _) | (with_reducible refine Ext.drew ?_) | (with_reducible refine Ext.alloc ?_ _) | (with_reducible refine Ext.setCell ?_ ?_ _) | (with_reducible refine Ext.setRow ?_ ?_ _) | (with_reducible exact Nat.le_refl _) | (with_reducible refine Ext.trans ?_ (by assumption)) | omega)
      · obtain rfl := stateNums_inj (h.2.trans HNUM.out.symm)
        have := h.1
        simp [stateOk, HP.out] at this
    have o2' := o2 hp
    have HP := Lib.hid hp
    clear hp o2
    cases hj : jobsOk js
    · have HJ := Lib.hid hj
      clear hj
      go_wp2_with fail
      refine bodyPost_ret (by simp [results, Try.results35, go_sem, CR5, FR5, LR5]; try rfl) rfl ?_
      refine ⟨_, rfl, ?_, .inr ⟨fun s h => ?_, rfl⟩⟩
      · repeat' (first | (with_reducible exact Ext.refl _) | (with_reducible assumption) | (with_reducible refine Ext.drewN ?_ _) | (with_reducible refine Ext.drew ?_) | (with_reducible refine Ext.alloc ?_ _) | (with_reducible refine Ext.setCell ?_ ?_ _) | (with_reducible refine Ext.setRow ?_ ?_ _) | (with_reducible exact Nat.le_refl _) | (with_reducible refine Ext.trans ?_ (by assumption)) | omega)
      · obtain rfl := stateNums_inj (h.2.trans HNUM.out.symm)
        have := h.1
        simp [stateOk, HJ.out] at this
    have o3' := o3 hj
    have HJ := Lib.hid hj
    clear hj o3
    cases hk : leaseOk ⟨y0, y1, y2⟩
    · have HK := Lib.hid hk
      clear hk
      go_wp2_with fail
      refine bodyPost_ret (by simp [results, Try.results35, go_sem, CR5, FR5, LR5]; try rfl) rfl ?_
      refine ⟨_, rfl, ?_, .inr ⟨fun s h => ?_, rfl⟩⟩
      · repeat' (first | (with_reducible exact Ext.refl _) | (with_reducible assumption) | (with_reducible refine Ext.drewN ?_ _) | (with_reducible refine Ext.drew ?_) | (with_reducible refine Ext.alloc ?_ _) | (with_reducible refine Ext.setCell ?_ ?_ _) | (with_reducible refine Ext.setRow ?_ ?_ _) | (with_reducible exact Nat.le_refl _) | (with_reducible refine Ext.trans ?_ (by assumption)) | omega)
      · obtain rfl := stateNums_inj (h.2.trans HNUM.out.symm)
        have := h.1
        simp [stateOk, HK.out] at this
    obtain rfl : le = ⟨y0, y1, y2⟩ := by rw [HLE.out]; simp [leaseIf, hk]
    have HK := Lib.hid hk
    clear hk HLE
    go_wp2_with fail
    refine (sStateOk_c _ x0 x1 _ ps _ js y0 y1 y2 ((OwnI.ints o2').ext (by repeat' (first | (with_reducible exact Ext.refl _) | (with_reducible assumption) | (with_reducible refine Ext.drewN ?_ _) | (with_reducible refine Ext.drew ?_) | (with_reducible refine Ext.alloc ?_ _) | (with_reducible refine Ext.setCell ?_ ?_ _) | (with_reducible refine Ext.setRow ?_ ?_ _) | (with_reducible exact Nat.le_refl _) | (with_reducible refine Ext.trans ?_ (by assumption)) | omega))) ((OwnI.ints o3').ext (by repeat' (first | (with_reducible exact Ext.refl _) | (with_reducible assumption) | (with_reducible refine Ext.drewN ?_ _) | (with_reducible refine Ext.drew ?_) | (with_reducible refine Ext.alloc ?_ _) | (with_reducible refine Ext.setCell ?_ ?_ _) | (with_reducible refine Ext.setRow ?_ ?_ _) | (with_reducible exact Nat.le_refl _) | (with_reducible refine Ext.trans ?_ (by assumption)) | omega)))).mono ?_
    rintro e w8 ⟨rfl, hx8⟩
    have B8 : Blk w8 W5.heap.size 37 _ := Blk.ext (by repeat' (first | (with_reducible assumption) | (with_reducible exact Blk.new _ _ _) | (with_reducible exact Blk.new2 _ _ _ _) | (with_reducible exact Blk.new3 _ _ _ _ _) | (with_reducible apply Blk.drew) | (with_reducible apply Blk.drewN) | (with_reducible apply Blk.alloc) | (with_reducible apply Blk.set_) | (with_reducible apply Blk.row) | (with_reducible apply Blk.far) | (with_reducible apply Blk.rowFar) | omega | (simp; omega))) hx8
    (try simp only [List.setIfInBounds_toArray, List.set_cons_zero, List.set_cons_succ] at B8)
    have X8 : Ext W5 w8 := Ext.trans (by repeat' (first | (with_reducible exact Ext.refl _) | (with_reducible assumption) | (with_reducible refine Ext.drewN ?_ _) | (with_reducible refine Ext.drew ?_) | (with_reducible refine Ext.alloc ?_ _) | (with_reducible refine Ext.setCell ?_ ?_ _) | (with_reducible refine Ext.setRow ?_ ?_ _) | (with_reducible exact Nat.le_refl _) | (with_reducible refine Ext.trans ?_ (by assumption)) | omega)) hx8
    have E8 : Ext w w8 := E5.trans X8
    have KR8 := KR5.ext X8
    have CR8 := KR8.cell; have FR8 := KR8.frozen; have LR8 := KR8.lt
    have CB8 := B8.cell; have LB8 := B8.lt
    have hne : w.heap.size ≠ W5.heap.size := by omega
    clear CR5 FR5 d0 d1 l0 l1 l2
    have hz1 : w.heap.size + 1 ≤ w2.heap.size := by have := hx2.size; simpa using this
    have hz2 := hx3.size
    cases hok : stateOk ⟨x0, x1, ps, js, ⟨y0, y1, y2⟩⟩
    · have HOK := Lib.hid hok
      clear hok
      go_wp2_with fail
      refine bodyPost_ret (by simp [results, Try.results35, go_sem, CR8, FR8, LR8]; try rfl) rfl ?_
      refine ⟨_, rfl, ?_, .inr ⟨fun s h => ?_, rfl⟩⟩
      · (repeat (refine Ext.setCell ?_ (Nat.le_refl _) _)); exact E8
      · obtain rfl := stateNums_inj (h.2.trans HNUM.out.symm)
        have h9 := HOK.out
        rw [h.1] at h9
        exact Bool.noConfusion h9
    · have HOK := Lib.hid hok
      clear hok
      go_wp2_with fail
      refine bodyPost_ret (by simp [results, Try.results35, go_sem, CR8, FR8, LR8, CB8, LB8]; try rfl) rfl ?_
      refine ⟨_, rfl, ?_, .inl ⟨_, ⟨HOK.out, HNUM.out⟩, _, rfl, _, _, rfl, OwnI.mono (B := w.heap.size + 1) (OwnI.keep (OwnI.mono (OwnI.ext o2' (Y25.trans X8)) (by simp)) (by repeat' (first | (with_reducible exact Chg.refl _ _) | (with_reducible refine Chg.drewN ?_ _) | (with_reducible refine Chg.drew ?_) | (with_reducible refine Chg.alloc ?_ _) | (with_reducible refine Chg.setLow ?_ (by omega) _) | (with_reducible refine Chg.setNew ?_ (by omega) _) | (with_reducible refine Chg.setRow ?_ (by omega) _) | (with_reducible refine Chg.ext ?_ (by assumption)) | omega))) (by omega), OwnI.mono (B := w.heap.size + 1) (OwnI.keep (OwnI.mono (OwnI.ext o3' (Y35.trans X8)) (by omega)) (by repeat' (first | (with_reducible exact Chg.refl _ _) | (with_reducible refine Chg.drewN ?_ _) | (with_reducible refine Chg.drew ?_) | (with_reducible refine Chg.alloc ?_ _) | (with_reducible refine Chg.setLow ?_ (by omega) _) | (with_reducible refine Chg.setNew ?_ (by omega) _) | (with_reducible refine Chg.setRow ?_ (by omega) _) | (with_reducible refine Chg.ext ?_ (by assumption)) | omega))) (by omega)⟩⟩
      (repeat (refine Ext.setCell ?_ (Nat.le_refl _) _)); exact E8

end Go.Proofs.Ytemhbbpbmgpcaaa
