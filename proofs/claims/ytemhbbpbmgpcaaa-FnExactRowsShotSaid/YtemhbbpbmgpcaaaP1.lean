/- Pairs: right or not. -/
import Derived.Test.YtemhbbpbmgpcaaaV1
import Derived.Test.YtemhbbpbmgpcaaaBox
set_option linter.unusedSimpArgs false
set_option linter.unusedVariables false
namespace Go.Proofs.Ytemhbbpbmgpcaaa
open Go.RowKit Go.G8

end Go.Proofs.Ytemhbbpbmgpcaaa
namespace Go.G8
open Go.RowKit
def pairOk (p : DPair) : Bool := inb p.Key 0 9 && inb p.Value 0 999
/-- Element i of a list of pairs is in order. -/
def PairAt (l : List DPair) (i : Nat) : Prop := ∀ d, l[i]? = some d → pairOk d = true ∧ (∀ e, 0 < i → l[i - 1]? = some e → e.Key < d.Key)
def PairsOk (l : List DPair) : Prop := ∀ i, i < l.length → PairAt l i
open Classical in
noncomputable def pairsOk (l : List DPair) : Bool := decide (PairsOk l)
theorem pairsOk_true {l : List DPair} (h : PairsOk l) : pairsOk l = true := by simp [pairsOk, h]
theorem pairsOk_false {l : List DPair} (h : ¬ PairsOk l) : pairsOk l = false := by simp [pairsOk, h]
theorem pairsOk_iff {l : List DPair} : pairsOk l = true ↔ PairsOk l := by simp [pairsOk]
theorem PairsOk.key {l : List DPair} (h : PairsOk l) : ∀ (i : Nat) (d : DPair), l[i]? = some d → (i : Int) ≤ d.Key
  | 0, d, hd => by
    have hlt : 0 < l.length := (List.getElem?_eq_some_iff.1 hd).1
    have := (h 0 hlt d hd).1
    simp only [pairOk, Bool.and_eq_true] at this
    have := (inb_true.1 this.1).1
    simpa using this
  | i + 1, d, hd => by
    have hlt : i + 1 < l.length := (List.getElem?_eq_some_iff.1 hd).1
    have he : l[i]? = some l[i] := List.getElem?_eq_getElem (by omega)
    have h1 := (h (i + 1) hlt d hd).2 l[i] (by omega) (by simp)
    have h2 := PairsOk.key h i l[i] he
    omega
theorem PairsOk.len {l : List DPair} (h : PairsOk l) : l.length ≤ 10 := by
  rcases Nat.lt_or_ge 10 l.length with hlt | hge
  · have hd : l[10]? = some l[10] := List.getElem?_eq_getElem hlt
    have h1 := h.key 10 _ hd
    have := (h 10 hlt _ hd).1
    simp only [pairOk, Bool.and_eq_true] at this
    have := (inb_true.1 this.1).2
    omega
  · exact hge
theorem PairsOk.next {l : List DPair} {k : Nat} {d : DPair} (hd : l[k]? = some d) (h : ∀ i, i < k → PairAt l i) (h1 : pairOk d = true) (h2 : ∀ e, 0 < k → l[k - 1]? = some e → e.Key < d.Key) : ∀ i, i < k + 1 → PairAt l i := by
  intro i hi
  by_cases hik : i = k
  · subst hik
    intro d' hd'
    rw [hd] at hd'
    obtain rfl := Option.some.inj hd'
    exact ⟨h1, h2⟩
  · exact h i (by omega)
end Go.G8
namespace Go.Proofs.Ytemhbbpbmgpcaaa
open Go.RowKit Go.G8
set_option maxHeartbeats 1600000 in
set_option maxRecDepth 100000 in
theorem keyOk_cP (w : World) (c0_0 : Int) :
    Calls Try.prog 96 #[.int .i64 c0_0] w (fun e w' => e = .returned (.bool (inb c0_0 0 9)) ∧ w = w') := by
  have rsize_setRow := @size_setRow
  have rcell_setRow_lt := @cell_setRow_lt
  have rcell_setRow_gt := @cell_setRow_gt
  have rfrozen_setRow_lt := @frozen_setRow_lt
  have rfrozen_setRow_gt := @frozen_setRow_gt
  go_enter Try.func96, Try.ntmps96
  go_wp2_with (first | (go_at_call 55; refine (between_c _ _ _ _  ).mono ?_; rintro e wa ⟨rfl, rfl⟩))
  all_goals
    go_ret
    refine ⟨by first | rfl | (simp [*]; done) | (simp [*]; omega) | (simp_all [bq, bn]; done) | (simp_all [bq, bn]; omega), by rfl⟩
set_option maxHeartbeats 1600000 in
set_option maxRecDepth 100000 in
theorem valueOk_cP (w : World) (c0_0 : Int) :
    Calls Try.prog 97 #[.int .i64 c0_0] w (fun e w' => e = .returned (.bool (inb c0_0 0 999)) ∧ w = w') := by
  have rsize_setRow := @size_setRow
  have rcell_setRow_lt := @cell_setRow_lt
  have rcell_setRow_gt := @cell_setRow_gt
  have rfrozen_setRow_lt := @frozen_setRow_lt
  have rfrozen_setRow_gt := @frozen_setRow_gt
  go_enter Try.func97, Try.ntmps97
  go_wp2_with (first | (go_at_call 55; refine (between_c _ _ _ _  ).mono ?_; rintro e wa ⟨rfl, rfl⟩))
  all_goals
    go_ret
    refine ⟨by first | rfl | (simp [*]; done) | (simp [*]; omega) | (simp_all [bq, bn]; done) | (simp_all [bq, bn]; omega), by rfl⟩
set_option maxHeartbeats 1600000 in
set_option maxRecDepth 100000 in
theorem l14Right_c (w : World) (c0_0 : Int) (c0_1 : Int) :
    Calls Try.prog 93 #[.agg #[.int .i64 c0_0, .int .i64 c0_1]] w (RetV w (.bool (pairOk (⟨c0_0, c0_1⟩ : DPair)))) := by
  have rsize_setRow := @size_setRow
  have rcell_setRow_lt := @cell_setRow_lt
  have rcell_setRow_gt := @cell_setRow_gt
  have rfrozen_setRow_lt := @frozen_setRow_lt
  have rfrozen_setRow_gt := @frozen_setRow_gt
  go_enter Try.func93, Try.ntmps93
  go_wp2_with (first | (go_at_call 44; refine (l1In_c _ _ _ _  ).mono ?_; rintro e wa ⟨rfl, rfl⟩))
  all_goals
    go_ret
    refine ⟨by first | rfl | (simp [pairOk, *]; done) | (simp [pairOk, *]; omega) | (simp_all [pairOk, bq, bn]; done) | (simp_all [pairOk, bq, bn]; omega), ?_⟩
    repeat' (first | (with_reducible exact Ext.refl _) | (with_reducible assumption) | (with_reducible refine Ext.drewN ?_ _) | (with_reducible refine Ext.drew ?_) | (with_reducible refine Ext.alloc ?_ _) | (with_reducible refine Ext.setCell ?_ ?_ _) | (with_reducible refine Ext.setRow ?_ ?_ _) | (with_reducible exact Nat.le_refl _) | (with_reducible refine Ext.trans ?_ (by assumption)) | omega)
set_option maxHeartbeats 3200000 in
set_option maxRecDepth 100000 in
theorem sPairsOk_c (w : World) (s0_0 : Value) (l0_0 : List DPair) (h0_0 : Ints 2 w s0_0 (flPair l0_0)) : Calls Try.prog 81 #[s0_0] w (RetV w (.bool (pairsOk l0_0))) := by
  obtain ⟨a, cap, rfl, hcap, hm, ha⟩ := h0_0.recs (f := DPair.ints) (fun _ => rfl) (by decide)
  have HA := Lib.hid ha
  clear ha
  unfold maxLen at hm
  by_cases h10 : l0_0.length ≤ 10
  rotate_left
  · go_enter Try.func81, Try.ntmps81
    go_wp2
    go_ret
    exact ⟨congrArg (fun z => Ending.returned (.bool z)) (pairsOk_false (fun hh => h10 hh.len)).symm, Ext.refl _⟩
  · go_enter Try.func81, Try.ntmps81
    go_wp2
    go_loopw [3] (fun i wr => ∃ k : Nat, k ≤ l0_0.length ∧ i = .int .i64 k ∧ Ext w wr ∧ Hid (∀ i, i < k → PairAt l0_0 i)) (fun i _ => l0_0.length - (intOf i).toNat)
    case atStart => exact ⟨0, Nat.zero_le _, rfl, Ext.refl _, Lib.hid (fun i hi => by omega)⟩
    case round =>
      obtain ⟨k, hk, rfl, he, HO⟩ := hrel
      by_cases hlt : k < l0_0.length
      · obtain ⟨d, b1, o1, hd, rfl, hb1, c⟩ := HA.out k hlt
        have d0 := he.cell (c 0 _ (by decide) rfl)
        have d1 := he.cell (c 1 _ (by decide) rfl)
        simp only [Nat.add_zero] at d0
        have HD := Lib.hid hd
        clear c hd
        cases hp : pairOk d
        · skip
          all_goals
            have x0 := d0; have x1 := d1
            have hEW : Ext w wr := he
            obtain ⟨W, hW⟩ : ∃ W, W = wr := ⟨_, rfl⟩
            rw [← hW] at x0 x1 hEW
            go_wp2
            rw [← hW]
            clear hW
            refine wp_region_ext (by kernel_rfl) (by kernel_rfl) ?_
            repeat (first | go_big_quiet_skip | (go_big_quiet_want; first | (refine quiet_load _ _ _ ?_ rfl rfl (fun wq hq => ?_) ?_; rotate_left; (focus ((try have y0 := hq.cell x0); (try have y1 := hq.cell x1); (try have y2 := hq.cell e0); go_simp; first | done | rfl)); (try simp only [Act.put, List.setIfInBounds_toArray, List.set_cons_zero, List.set_cons_succ]); go_big_quiet_on) | (go_big_quiet_op; first | go_big_quiet_on | (refine ⟨_, fun _ _ => rfl, ?_⟩; go_big_quiet_on) | (apply Exists.intro; refine ⟨fun wq hq => ?_, ?_⟩; (focus (exact call_ext hq (by have c := l14Right_c wq d.Key d.Value; rw [show pairOk (⟨d.Key, d.Value⟩ : DPair) = false from hp] at c; exact c))); go_big_quiet_on))))
            refine wpQuiet_nil ?_
            intro w1 hx1
            go_wp2
            go_ret
            exact ⟨congrArg (fun z => Ending.returned (.bool z)) (pairsOk_false (fun hh => by have := (hh k hlt d HD.out).1; rw [hp] at this; cases this)).symm, hEW.trans hx1⟩
        · skip
          skip
          by_cases hk0 : k = 0
          · subst hk0
            (try simp only [Nat.zero_mul, Nat.add_zero] at d0 d1)
            have x0 := d0; have x1 := d1
            have hEW : Ext w wr := he
            obtain ⟨W, hW⟩ : ∃ W, W = wr := ⟨_, rfl⟩
            rw [← hW] at x0 x1 hEW
            go_wp2
            rw [← hW]
            clear hW
            refine wp_region_ext (by kernel_rfl) (by kernel_rfl) ?_
            repeat (first | go_big_quiet_skip | (go_big_quiet_want; first | (refine quiet_load _ _ _ ?_ rfl rfl (fun wq hq => ?_) ?_; rotate_left; (focus ((try have y0 := hq.cell x0); (try have y1 := hq.cell x1); (try have y2 := hq.cell e0); go_simp; first | done | rfl)); (try simp only [Act.put, List.setIfInBounds_toArray, List.set_cons_zero, List.set_cons_succ]); go_big_quiet_on) | (go_big_quiet_op; first | go_big_quiet_on | (refine ⟨_, fun _ _ => rfl, ?_⟩; go_big_quiet_on) | (apply Exists.intro; refine ⟨fun wq hq => ?_, ?_⟩; (focus (exact call_ext hq (by have c := l14Right_c wq d.Key d.Value; rw [show pairOk (⟨d.Key, d.Value⟩ : DPair) = true from hp] at c; exact c))); go_big_quiet_on))))
            refine wpQuiet_nil ?_
            intro w1 hx1
            go_wp2
            go_roundw
            case rel => exact ⟨0 + 1, by omega, by go_num, hEW.trans hx1, Lib.hid (PairsOk.next HD.out HO.out hp (fun e h => by omega))⟩
            case measure => simp [intOf]; omega
          · obtain ⟨e, b2, o2, hde, hbo, _, c⟩ := HA.out (k - 1) (by omega)
            obtain ⟨rfl, rfl⟩ : b1 = b2 ∧ o1 = o2 := by simpa using hbo
            have e00 := he.cell (c 0 _ (by decide) rfl)
            simp only [Nat.add_zero] at e00
            have HE := Lib.hid hde
            clear c hde hbo
            have hk1 : decide (0 < k) = true := by simp; omega
            by_cases hle : d.Key ≤ e.Key
            · have hle' : decide (d.Key ≤ e.Key) = true := by simpa using hle
              have x0 := d0; have x1 := d1
              have hEW : Ext w wr := he
              obtain ⟨W, hW⟩ : ∃ W, W = wr := ⟨_, rfl⟩
              rw [← hW] at x0 x1 hEW
              go_wp2
              rw [← hW]
              have e0 : W.cell? ⟨b1, o1 + (k - 1) * 2, none⟩ = some (.int .i64 e.Key) := by rw [hW]; exact e00
              clear hW
              refine wp_region_ext (by kernel_rfl) (by kernel_rfl) ?_
              repeat (first | go_big_quiet_skip | (go_big_quiet_want; first | (refine quiet_load _ _ _ ?_ rfl rfl (fun wq hq => ?_) ?_; rotate_left; (focus ((try have y0 := hq.cell x0); (try have y1 := hq.cell x1); (try have y2 := hq.cell e0); go_simp; first | done | rfl)); (try simp only [Act.put, List.setIfInBounds_toArray, List.set_cons_zero, List.set_cons_succ]); go_big_quiet_on) | (go_big_quiet_op; first | go_big_quiet_on | (refine ⟨_, fun _ _ => rfl, ?_⟩; go_big_quiet_on) | (apply Exists.intro; refine ⟨fun wq hq => ?_, ?_⟩; (focus (exact call_ext hq (by have c := l14Right_c wq d.Key d.Value; rw [show pairOk (⟨d.Key, d.Value⟩ : DPair) = true from hp] at c; exact c))); go_big_quiet_on))))
              refine wpQuiet_nil ?_
              intro w1 hx1
              go_wp2
              go_ret
              exact ⟨congrArg (fun z => Ending.returned (.bool z)) (pairsOk_false (fun hh => by have := (hh k hlt d HD.out).2 e (by omega) HE.out; omega)).symm, hEW.trans hx1⟩
            · have hle' : decide (d.Key ≤ e.Key) = false := by simpa using hle
              have x0 := d0; have x1 := d1
              have hEW : Ext w wr := he
              obtain ⟨W, hW⟩ : ∃ W, W = wr := ⟨_, rfl⟩
              rw [← hW] at x0 x1 hEW
              go_wp2
              rw [← hW]
              have e0 : W.cell? ⟨b1, o1 + (k - 1) * 2, none⟩ = some (.int .i64 e.Key) := by rw [hW]; exact e00
              clear hW
              refine wp_region_ext (by kernel_rfl) (by kernel_rfl) ?_
              repeat (first | go_big_quiet_skip | (go_big_quiet_want; first | (refine quiet_load _ _ _ ?_ rfl rfl (fun wq hq => ?_) ?_; rotate_left; (focus ((try have y0 := hq.cell x0); (try have y1 := hq.cell x1); (try have y2 := hq.cell e0); go_simp; first | done | rfl)); (try simp only [Act.put, List.setIfInBounds_toArray, List.set_cons_zero, List.set_cons_succ]); go_big_quiet_on) | (go_big_quiet_op; first | go_big_quiet_on | (refine ⟨_, fun _ _ => rfl, ?_⟩; go_big_quiet_on) | (apply Exists.intro; refine ⟨fun wq hq => ?_, ?_⟩; (focus (exact call_ext hq (by have c := l14Right_c wq d.Key d.Value; rw [show pairOk (⟨d.Key, d.Value⟩ : DPair) = true from hp] at c; exact c))); go_big_quiet_on))))
              refine wpQuiet_nil ?_
              intro w1 hx1
              go_wp2
              go_roundw
              case rel => exact ⟨k + 1, by omega, by go_num, hEW.trans hx1, Lib.hid (PairsOk.next HD.out HO.out hp (fun e' _ hl => by rw [HE.out] at hl; obtain rfl := Option.some.inj hl; omega))⟩
              case measure => simp [intOf]; omega
      · obtain rfl : k = l0_0.length := by omega
        go_wp2
        go_ret
        exact ⟨congrArg (fun z => Ending.returned (.bool z)) (pairsOk_true HO.out).symm, he⟩
set_option maxHeartbeats 3200000 in
set_option maxRecDepth 100000 in
theorem pairsOk_c (w : World) (s0_0 : Value) (l0_0 : List DPair) (h0_0 : Ints 2 w s0_0 (flPair l0_0)) : Calls Try.prog 87 #[s0_0] w (RetV w (.bool (pairsOk l0_0))) := by
  obtain ⟨a, cap, rfl, hcap, hm, ha⟩ := h0_0.recs (f := DPair.ints) (fun _ => rfl) (by decide)
  have HA := Lib.hid ha
  clear ha
  unfold maxLen at hm
  · go_enter Try.func87, Try.ntmps87
    go_wp2
    go_loopw [7] (fun i wr => ∃ k : Nat, k ≤ l0_0.length ∧ i = .int .i64 k ∧ Ext w wr ∧ Hid (∀ i, i < k → PairAt l0_0 i)) (fun i _ => l0_0.length - (intOf i).toNat)
    case atStart => exact ⟨0, Nat.zero_le _, rfl, Ext.refl _, Lib.hid (fun i hi => by omega)⟩
    case round =>
      obtain ⟨k, hk, rfl, he, HO⟩ := hrel
      by_cases hlt : k < l0_0.length
      · obtain ⟨d, b1, o1, hd, rfl, hb1, c⟩ := HA.out k hlt
        have d0 := he.cell (c 0 _ (by decide) rfl)
        have d1 := he.cell (c 1 _ (by decide) rfl)
        simp only [Nat.add_zero] at d0
        have HD := Lib.hid hd
        clear c hd
        cases hp : pairOk d
        · cases hky : inb d.Key 0 9
          all_goals
            go_wp2
            obtain ⟨W, hW⟩ : ∃ W, W = wr.alloc (.cells #[.int .i64 d.Key, .int .i64 d.Value] 106) := ⟨_, rfl⟩
            have x0 : W.cell? ⟨wr.heap.size, 0, none⟩ = some (.int .i64 d.Key) := by rw [hW]; simp
            have x1 : W.cell? ⟨wr.heap.size, 1, none⟩ = some (.int .i64 d.Value) := by rw [hW]; simp
            have hEW : Ext w W := by rw [hW]; exact he.alloc _
            rw [← hW]
            clear hW
            (try have hvl : inb d.Value 0 999 = false := by simpa [pairOk, hky] using hp)
            refine wp_region_ext (by kernel_rfl) (by kernel_rfl) ?_
            repeat (first | go_big_quiet_skip | (go_big_quiet_want; first | (refine quiet_load _ _ _ ?_ rfl rfl (fun wq hq => ?_) ?_; rotate_left; (focus ((try have y0 := hq.cell x0); (try have y1 := hq.cell x1); (try have y2 := hq.cell e0); go_simp; first | done | rfl)); (try simp only [Act.put, List.setIfInBounds_toArray, List.set_cons_zero, List.set_cons_succ]); go_big_quiet_on) | (go_big_quiet_op; first | go_big_quiet_on | (refine ⟨_, fun _ _ => rfl, ?_⟩; go_big_quiet_on) | (apply Exists.intro; refine ⟨fun wq hq => ?_, ?_⟩; (focus (first | exact call_same hq (keyOk_cP wq d.Key) | exact call_same hq (valueOk_cP wq d.Value))); go_big_quiet_on))))
            refine wpQuiet_nil ?_
            intro w1 hx1
            go_wp2
            go_ret
            exact ⟨congrArg (fun z => Ending.returned (.bool z)) (pairsOk_false (fun hh => by have := (hh k hlt d HD.out).1; rw [hp] at this; cases this)).symm, hEW.trans hx1⟩
        · have hpp : inb d.Key 0 9 = true ∧ inb d.Value 0 999 = true := by simpa [pairOk] using hp
          obtain ⟨hky, hvl⟩ := hpp
          by_cases hk0 : k = 0
          · subst hk0
            (try simp only [Nat.zero_mul, Nat.add_zero] at d0 d1)
            go_wp2
            obtain ⟨W, hW⟩ : ∃ W, W = wr.alloc (.cells #[.int .i64 d.Key, .int .i64 d.Value] 106) := ⟨_, rfl⟩
            have x0 : W.cell? ⟨wr.heap.size, 0, none⟩ = some (.int .i64 d.Key) := by rw [hW]; simp
            have x1 : W.cell? ⟨wr.heap.size, 1, none⟩ = some (.int .i64 d.Value) := by rw [hW]; simp
            have hEW : Ext w W := by rw [hW]; exact he.alloc _
            rw [← hW]
            clear hW
            refine wp_region_ext (by kernel_rfl) (by kernel_rfl) ?_
            repeat (first | go_big_quiet_skip | (go_big_quiet_want; first | (refine quiet_load _ _ _ ?_ rfl rfl (fun wq hq => ?_) ?_; rotate_left; (focus ((try have y0 := hq.cell x0); (try have y1 := hq.cell x1); (try have y2 := hq.cell e0); go_simp; first | done | rfl)); (try simp only [Act.put, List.setIfInBounds_toArray, List.set_cons_zero, List.set_cons_succ]); go_big_quiet_on) | (go_big_quiet_op; first | go_big_quiet_on | (refine ⟨_, fun _ _ => rfl, ?_⟩; go_big_quiet_on) | (apply Exists.intro; refine ⟨fun wq hq => ?_, ?_⟩; (focus (first | exact call_same hq (keyOk_cP wq d.Key) | exact call_same hq (valueOk_cP wq d.Value))); go_big_quiet_on))))
            refine wpQuiet_nil ?_
            intro w1 hx1
            go_wp2
            go_roundw
            case rel => exact ⟨0 + 1, by omega, by go_num, hEW.trans hx1, Lib.hid (PairsOk.next HD.out HO.out hp (fun e h => by omega))⟩
            case measure => simp [intOf]; omega
          · obtain ⟨e, b2, o2, hde, hbo, _, c⟩ := HA.out (k - 1) (by omega)
            obtain ⟨rfl, rfl⟩ : b1 = b2 ∧ o1 = o2 := by simpa using hbo
            have e00 := he.cell (c 0 _ (by decide) rfl)
            simp only [Nat.add_zero] at e00
            have HE := Lib.hid hde
            clear c hde hbo
            have hk1 : decide (0 < k) = true := by simp; omega
            by_cases hle : d.Key ≤ e.Key
            · have hle' : decide (d.Key ≤ e.Key) = true := by simpa using hle
              go_wp2
              obtain ⟨W, hW⟩ : ∃ W, W = wr.alloc (.cells #[.int .i64 d.Key, .int .i64 d.Value] 106) := ⟨_, rfl⟩
              have x0 : W.cell? ⟨wr.heap.size, 0, none⟩ = some (.int .i64 d.Key) := by rw [hW]; simp
              have x1 : W.cell? ⟨wr.heap.size, 1, none⟩ = some (.int .i64 d.Value) := by rw [hW]; simp
              have hEW : Ext w W := by rw [hW]; exact he.alloc _
              rw [← hW]
              have e0 : W.cell? ⟨b1, o1 + (k - 1) * 2, none⟩ = some (.int .i64 e.Key) := by rw [hW]; exact ((Ext.refl wr).alloc _).cell e00
              clear hW
              refine wp_region_ext (by kernel_rfl) (by kernel_rfl) ?_
              repeat (first | go_big_quiet_skip | (go_big_quiet_want; first | (refine quiet_load _ _ _ ?_ rfl rfl (fun wq hq => ?_) ?_; rotate_left; (focus ((try have y0 := hq.cell x0); (try have y1 := hq.cell x1); (try have y2 := hq.cell e0); go_simp; first | done | rfl)); (try simp only [Act.put, List.setIfInBounds_toArray, List.set_cons_zero, List.set_cons_succ]); go_big_quiet_on) | (go_big_quiet_op; first | go_big_quiet_on | (refine ⟨_, fun _ _ => rfl, ?_⟩; go_big_quiet_on) | (apply Exists.intro; refine ⟨fun wq hq => ?_, ?_⟩; (focus (first | exact call_same hq (keyOk_cP wq d.Key) | exact call_same hq (valueOk_cP wq d.Value))); go_big_quiet_on))))
              refine wpQuiet_nil ?_
              intro w1 hx1
              go_wp2
              go_ret
              exact ⟨congrArg (fun z => Ending.returned (.bool z)) (pairsOk_false (fun hh => by have := (hh k hlt d HD.out).2 e (by omega) HE.out; omega)).symm, hEW.trans hx1⟩
            · have hle' : decide (d.Key ≤ e.Key) = false := by simpa using hle
              go_wp2
              obtain ⟨W, hW⟩ : ∃ W, W = wr.alloc (.cells #[.int .i64 d.Key, .int .i64 d.Value] 106) := ⟨_, rfl⟩
              have x0 : W.cell? ⟨wr.heap.size, 0, none⟩ = some (.int .i64 d.Key) := by rw [hW]; simp
              have x1 : W.cell? ⟨wr.heap.size, 1, none⟩ = some (.int .i64 d.Value) := by rw [hW]; simp
              have hEW : Ext w W := by rw [hW]; exact he.alloc _
              rw [← hW]
              have e0 : W.cell? ⟨b1, o1 + (k - 1) * 2, none⟩ = some (.int .i64 e.Key) := by rw [hW]; exact ((Ext.refl wr).alloc _).cell e00
              clear hW
              refine wp_region_ext (by kernel_rfl) (by kernel_rfl) ?_
              repeat (first | go_big_quiet_skip | (go_big_quiet_want; first | (refine quiet_load _ _ _ ?_ rfl rfl (fun wq hq => ?_) ?_; rotate_left; (focus ((try have y0 := hq.cell x0); (try have y1 := hq.cell x1); (try have y2 := hq.cell e0); go_simp; first | done | rfl)); (try simp only [Act.put, List.setIfInBounds_toArray, List.set_cons_zero, List.set_cons_succ]); go_big_quiet_on) | (go_big_quiet_op; first | go_big_quiet_on | (refine ⟨_, fun _ _ => rfl, ?_⟩; go_big_quiet_on) | (apply Exists.intro; refine ⟨fun wq hq => ?_, ?_⟩; (focus (first | exact call_same hq (keyOk_cP wq d.Key) | exact call_same hq (valueOk_cP wq d.Value))); go_big_quiet_on))))
              refine wpQuiet_nil ?_
              intro w1 hx1
              go_wp2
              go_roundw
              case rel => exact ⟨k + 1, by omega, by go_num, hEW.trans hx1, Lib.hid (PairsOk.next HD.out HO.out hp (fun e' _ hl => by rw [HE.out] at hl; obtain rfl := Option.some.inj hl; omega))⟩
              case measure => simp [intOf]; omega
      · obtain rfl : k = l0_0.length := by omega
        go_wp2
        go_ret
        exact ⟨congrArg (fun z => Ending.returned (.bool z)) (pairsOk_true HO.out).symm, he⟩

end Go.Proofs.Ytemhbbpbmgpcaaa
