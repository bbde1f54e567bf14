/- Pairs read by key. -/
import Derived.Test.YtankkbjlneeolaaQ12
set_option linter.unusedSimpArgs false
set_option linter.unusedVariables false
namespace Go.Proofs.Ytankkbjlneeolaa
open Go.RowKit Go.G8

end Go.Proofs.Ytankkbjlneeolaa
namespace Go.G8
open Go.RowKit
def vfind (l : List DPair) (key : Int) : Option DPair := l.find? (fun p => decide (p.Key = key))
def vnum (l : List DPair) (key : Int) : Int := match vfind l key with | some p => p.Value | none => 0
def vhas (l : List DPair) (key : Int) : Bool := (vfind l key).isSome
theorem find_at {α : Type} {p : α → Bool} {l : List α} {k : Nat} {x : α} (hx : l[k]? = some x) (h : (l.take k).all (fun y => !p y) = true) (hp : p x = true) : l.find? p = some x := by
  have hk : k < l.length := (List.getElem?_eq_some_iff.1 hx).1
  have h1 : l = l.take k ++ (x :: l.drop (k + 1)) := by
    have h2 : l.drop k = l[k] :: l.drop (k + 1) := List.drop_eq_getElem_cons hk
    have h3 : l[k] = x := (List.getElem?_eq_some_iff.1 hx).2
    rw [h3] at h2
    rw [← h2, List.take_append_drop]
  have h4 : (l.take k).find? p = none := by
    rw [List.find?_eq_none]
    intro y hy
    have := (List.all_eq_true.1 h) y hy
    simpa using this
  rw [h1, List.find?_append, h4]
  simp [hp]
theorem find_none {α : Type} {p : α → Bool} {l : List α} (h : l.all (fun y => !p y) = true) : l.find? p = none := by
  rw [List.find?_eq_none]
  intro y hy
  have := (List.all_eq_true.1 h) y hy
  simpa using this
end Go.G8
namespace Go.Proofs.Ytankkbjlneeolaa
open Go.RowKit Go.G8
set_option maxHeartbeats 1600000 in
set_option maxRecDepth 100000 in
theorem sValueAt_c (w : World) (s0_0 : Value) (l0_0 : List DPair) (key : Int) (h0_0 : Ints 2 w s0_0 (flPair l0_0)) (hp : pairsOk l0_0 = true) :
    Calls Try.prog 41 #[s0_0, .int .i64 key] w (RetV w (.tuple #[.int .i64 (vnum l0_0 key), .bool (vhas l0_0 key)])) := by
  obtain ⟨a, cap, rfl, hcap, hm, ha⟩ := h0_0.recs (f := DPair.ints) (fun _ => rfl) (by decide)
  have HA := Lib.hid ha
  have HV := Lib.hid hp
  clear ha hp
  unfold maxLen at hm
  go_enter Try.func41, Try.ntmps41
  go_wp2_with fail
  refine (sPairsOk_c _ _ _ h0_0).mono ?_
  rintro e w1 ⟨rfl, hx1⟩
  rw [HV.out]
  go_wp2_with fail
  go_loopw [6] (fun i wr => ∃ k : Nat, k ≤ l0_0.length ∧ i = .int .i64 k ∧ Ext w wr ∧ Hid ((l0_0.take k).all (fun p => !decide (p.Key = key)) = true)) (fun i _ => l0_0.length - (intOf i).toNat)
  case atStart => exact ⟨0, Nat.zero_le _, rfl, hx1, Lib.hid (by simp)⟩
  case round =>
    obtain ⟨k, hk, rfl, he, hn⟩ := hrel
    by_cases hlt : k < l0_0.length
    · obtain ⟨d, b1, o1, hd, rfl, hb1, c⟩ := HA.out k hlt
      have d0 := he.cell (c 0 _ (by decide) rfl)
      have d1 := he.cell (c 1 _ (by decide) rfl)
      simp only [Nat.add_zero] at d0
      have HD := Lib.hid hd
      clear c hd
      by_cases hq : d.Key = key
      · subst hq
        go_wp2
        go_ret2
        have hf : vfind l0_0 d.Key = some d := find_at HD.out hn.out (by simp)
        exact ⟨by simp [vnum, vhas, hf], he⟩
      · go_wp2
        go_roundw
        case rel => exact ⟨k + 1, by omega, by go_num, he, Lib.hid (all_step HD.out hn.out (by simp [hq]))⟩
        case measure => simp [intOf]; omega
    · obtain rfl : k = l0_0.length := by omega
      go_wp2
      go_ret2
      have hn' := hn.out
      rw [List.take_length] at hn'
      have hf : vfind l0_0 key = none := find_none hn'
      exact ⟨by simp [vnum, vhas, hf], he⟩
theorem pairKey_c (w : World) (x y : Int) : Calls Try.prog 89 #[.agg #[.int .i64 x, .int .i64 y]] w (RetV w (.int .i64 x)) := by
  go_enter Try.func89, Try.ntmps89
  go_wp2
  go_ret
  refine ⟨rfl, ?_⟩
  repeat' (first | (with_reducible exact Ext.refl _) | (with_reducible assumption) | (with_reducible refine Ext.drewN ?_ _) | (with_reducible refine Ext.drew ?_) | (with_reducible refine Ext.alloc ?_ _) | (with_reducible refine Ext.setCell ?_ ?_ _) | (with_reducible refine Ext.setRow ?_ ?_ _) | (with_reducible exact Nat.le_refl _) | (with_reducible refine Ext.trans ?_ (by assumption)) | omega)
set_option maxHeartbeats 1600000 in
set_option maxRecDepth 100000 in
theorem closure_c (w : World) (key x y : Int) (B1 B2 : Nat) (hB1 : B1 < w.heap.size) (hB2 : B2 < w.heap.size) (c1 : w.cell? ⟨B1, 0, none⟩ = some (.func (.func 89) #[] #[])) (c2 : w.cell? ⟨B2, 0, none⟩ = some (.int .i64 key)) :
    Calls Try.prog 120 #[.agg #[.int .i64 x, .int .i64 y], .pointer (some ⟨B1, 0, none⟩), .pointer (some ⟨B2, 0, none⟩)] w (RetV w (.bool (decide (x = key)))) := by
  obtain ⟨W0, hW0⟩ : ∃ W0, W0 = w.alloc (.cells #[.int .i64 x, .int .i64 y] 111) := ⟨_, rfl⟩
  have hE0 : Ext w W0 := by rw [hW0]; exact (Ext.refl _).alloc _
  have KP : Blk W0 w.heap.size 111 #[.int .i64 x, .int .i64 y] := by rw [hW0]; exact Blk.new _ _ _
  have k1 := hE0.cell c1
  have k2 := hE0.cell c2
  have H0 := Lib.hid hW0
  clear hW0
  go_enter Try.func120, Try.ntmps120
  go_wp2_with fail
  rw [← H0.out]
  go_region_held3 (fun w' => w'.cell? ⟨B1, 0, none⟩ = some (.func (.func 89) #[] #[]) ∧ w'.cell? ⟨B2, 0, none⟩ = some (.int .i64 key) ∧ w'.cell? ⟨w.heap.size, 0, none⟩ = some (.int .i64 x) ∧ w'.cell? ⟨w.heap.size, 1, none⟩ = some (.int .i64 y))
    (first | (refine ⟨Ext.cell (w := W0) ?_ k1, Ext.cell (w := W0) ?_ k2, ((KP.ext ?_).cell 0).trans (by simp), ((KP.ext ?_).cell 1).trans (by simp)⟩ <;> (repeat' (first | (with_reducible exact Ext.refl _) | (with_reducible assumption) | (with_reducible refine Ext.drewN ?_ _) | (with_reducible refine Ext.drew ?_) | (with_reducible refine Ext.alloc ?_ _) | (with_reducible refine Ext.setCell ?_ ?_ _) | (with_reducible refine Ext.setRow ?_ ?_ _) | (with_reducible exact Nat.le_refl _) | (with_reducible refine Ext.trans ?_ (by assumption)) | omega)); done))
    (first | (go_at_call 89; refine (pairKey_c _ x y).mono ?_; rintro e w1 ⟨rfl, hx1⟩))
  all_goals
    go_wp2_with fail
    go_ret
    refine ⟨rfl, ?_⟩
    exact hE0.trans (by repeat' (first | (with_reducible exact Ext.refl _) | (with_reducible assumption) | (with_reducible refine Ext.drewN ?_ _) | (with_reducible refine Ext.drew ?_) | (with_reducible refine Ext.alloc ?_ _) | (with_reducible refine Ext.setCell ?_ ?_ _) | (with_reducible refine Ext.setRow ?_ ?_ _) | (with_reducible exact Nat.le_refl _) | (with_reducible refine Ext.trans ?_ (by assumption)) | omega))
set_option maxHeartbeats 1600000 in
set_option maxRecDepth 100000 in
theorem indexFunc_c (w : World) (s0_0 : Value) (l0_0 : List DPair) (key : Int) (h0_0 : Ints 2 w s0_0 (flPair l0_0)) (B1 B2 : Nat) (hB1 : B1 < w.heap.size) (hB2 : B2 < w.heap.size) (c1 : w.cell? ⟨B1, 0, none⟩ = some (.func (.func 89) #[] #[])) (c2 : w.cell? ⟨B2, 0, none⟩ = some (.int .i64 key)) :
    Calls Try.prog 119 #[s0_0, .func (.func 120) #[] #[.pointer (some ⟨B1, 0, none⟩), .pointer (some ⟨B2, 0, none⟩)]] w (fun e w' => ∃ z : Int, e = .returned (.int .i64 z) ∧ Ext w w' ∧ ((z = -1 ∧ vfind l0_0 key = none) ∨ ∃ (k : Nat) (d : DPair), z = (k : Int) ∧ l0_0[k]? = some d ∧ vfind l0_0 key = some d)) := by
  obtain ⟨a, cap, rfl, hcap, hm, ha⟩ := h0_0.recs (f := DPair.ints) (fun _ => rfl) (by decide)
  have HA := Lib.hid ha
  clear ha
  unfold maxLen at hm
  go_enter Try.func119, Try.ntmps119
  go_wp2_with fail
  go_loopw [8] (fun i wr => ∃ k : Nat, k ≤ l0_0.length ∧ i = .int .i64 k ∧ Ext w wr ∧ Hid ((l0_0.take k).all (fun p => !decide (p.Key = key)) = true)) (fun i _ => l0_0.length - (intOf i).toNat)
  case atStart => exact ⟨0, Nat.zero_le _, rfl, Ext.refl _, Lib.hid (by simp)⟩
  case round =>
    obtain ⟨k, hk, rfl, he, hn⟩ := hrel
    have e1 := he.cell c1
    have e2 := he.cell c2
    have hs := he.size
    by_cases hlt : k < l0_0.length
    · obtain ⟨d, b1, o1, hd, rfl, hb1, c⟩ := HA.out k hlt
      have d0 := he.cell (c 0 _ (by decide) rfl)
      have d1 := he.cell (c 1 _ (by decide) rfl)
      simp only [Nat.add_zero] at d0
      have HD := Lib.hid hd
      clear c hd
      by_cases hq : d.Key = key
      · go_wp2_with fail
        refine (closure_c _ key _ _ B1 B2 (by omega) (by omega) e1 e2).mono ?_
        rintro e w1 ⟨rfl, hx1⟩
        simp only [decide_true]
        go_wp2
        go_ret
        have hf : vfind l0_0 key = some d := find_at HD.out hn.out (by simp [hq])
        exact ⟨_, rfl, he.trans hx1, .inr ⟨k, d, rfl, HD.out, hf⟩⟩
      · go_wp2_with fail
        refine (closure_c _ key _ _ B1 B2 (by omega) (by omega) e1 e2).mono ?_
        rintro e w1 ⟨rfl, hx1⟩
        rw [show decide (d.Key = key) = false by simp [hq]]
        go_wp2
        go_roundw
        case rel => exact ⟨k + 1, by omega, by go_num, he.trans hx1, Lib.hid (all_step HD.out hn.out (by simp [hq]))⟩
        case measure => simp [intOf]; omega
    · obtain rfl : k = l0_0.length := by omega
      go_wp2
      go_ret
      have hn' := hn.out
      rw [List.take_length] at hn'
      exact ⟨-1, rfl, he, .inl ⟨rfl, find_none hn'⟩⟩
set_option maxHeartbeats 1600000 in
set_option maxRecDepth 100000 in
theorem placeBy_c (w : World) (s0_0 : Value) (l0_0 : List DPair) (key : Int) (h0_0 : Ints 2 w s0_0 (flPair l0_0)) :
    Calls Try.prog 88 #[s0_0, .int .i64 key, .func (.func 89) #[] #[]] w (fun e w' => ∃ z : Int, e = .returned (.int .i64 z) ∧ Ext w w' ∧ ((z = -1 ∧ vfind l0_0 key = none) ∨ ∃ (k : Nat) (d : DPair), z = (k : Int) ∧ l0_0[k]? = some d ∧ vfind l0_0 key = some d)) := by
  obtain ⟨a0, n0, k0, rfl⟩ := h0_0.shape
  go_enter Try.func88, Try.ntmps88
  go_wp2_with fail
  refine (indexFunc_c _ _ l0_0 key (h0_0.ext (by repeat' (first | (with_reducible exact Ext.refl _) | (with_reducible assumption) | (with_reducible refine Ext.drewN ?_ _) | (with_reducible refine Ext.drew ?_) | (with_reducible refine Ext.alloc ?_ _) | (with_reducible refine Ext.setCell ?_ ?_ _) | (with_reducible refine Ext.setRow ?_ ?_ _) | (with_reducible exact Nat.le_refl _) | (with_reducible refine Ext.trans ?_ (by assumption)) | omega))) (w.heap.size + 1) w.heap.size (by simp) (by simp <;> omega) (by simp) (by simp)).mono ?_
  rintro e w1 ⟨z, rfl, hx1, hz⟩
  go_wp2
  go_ret
  exact ⟨z, rfl, Ext.trans (by repeat' (first | (with_reducible exact Ext.refl _) | (with_reducible assumption) | (with_reducible refine Ext.drewN ?_ _) | (with_reducible refine Ext.drew ?_) | (with_reducible refine Ext.alloc ?_ _) | (with_reducible refine Ext.setCell ?_ ?_ _) | (with_reducible refine Ext.setRow ?_ ?_ _) | (with_reducible exact Nat.le_refl _) | (with_reducible refine Ext.trans ?_ (by assumption)) | omega)) hx1, hz⟩
set_option maxHeartbeats 1600000 in
set_option maxRecDepth 100000 in
theorem valueAt_c (w : World) (s0_0 : Value) (l0_0 : List DPair) (key : Int) (h0_0 : Ints 2 w s0_0 (flPair l0_0)) :
    Calls Try.prog 44 #[s0_0, .int .i64 key] w (RetV w (.tuple #[.int .i64 (vnum l0_0 key), .bool (vhas l0_0 key)])) := by
  obtain ⟨a, cap, rfl, hcap, hm, ha⟩ := h0_0.recs (f := DPair.ints) (fun _ => rfl) (by decide)
  have HA := Lib.hid ha
  clear ha
  unfold maxLen at hm
  go_enter Try.func44, Try.ntmps44
  go_wp2_with fail
  refine (placeBy_c _ _ l0_0 key h0_0).mono ?_
  rintro e w1 ⟨z, rfl, hx1, ⟨rfl, hf⟩ | ⟨k, d, rfl, hd, hf⟩⟩
  · go_wp2
    go_ret2
    exact ⟨by simp [vnum, vhas, hf], hx1⟩
  · have hlt : k < l0_0.length := (List.getElem?_eq_some_iff.1 hd).1
    obtain ⟨d', b1, o1, hd', rfl, hb1, c⟩ := HA.out k hlt
    rw [hd] at hd'
    injection hd' with hd'
    subst hd'
    have d1 := hx1.cell (c 1 _ (by decide) rfl)
    have hn : ¬ ((k : Int) < 0) := by omega
    clear hd c
    go_wp2
    go_ret2
    exact ⟨by simp [vnum, vhas, hf], hx1⟩

end Go.Proofs.Ytankkbjlneeolaa
