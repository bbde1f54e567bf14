/- Rows without their checksum. -/
import Derived.Test.YtemhbbpbmgpcaaaShM
import Derived.Test.YtemhbbpbmgpcaaaQ4
set_option linter.unusedSimpArgs false
set_option linter.unusedVariables false
namespace Go.Proofs.Ytemhbbpbmgpcaaa
open Go.RowKit Go.G8

theorem unsum_last {l : List Int} {z : Int} (hr : rowOk l = true) (h0 : 0 < l.length) (hz : l[l.length - 1]? = some z) : unsumOk l = decide (sumOf (l.take (l.length - 1)) = z) := by
  simp only [unsumOk, hr, h0, decide_true, Bool.true_and, hz, Option.some.injEq]
  by_cases h : sumOf (l.take (l.length - 1)) = z
  · simp [h]
  · simp [h, Ne.symm h]
theorem rowOk_take {l : List Int} {m : Nat} (h : rowOk l = true) : rowOk (l.take m) = true := by
  simp only [rowOk, Bool.and_eq_true, decide_eq_true_eq, List.all_eq_true] at h ⊢
  refine ⟨by simp; omega, fun x hx => h.2 x (List.mem_of_mem_take hx)⟩
set_option maxHeartbeats 1600000 in
set_option maxRecDepth 100000 in
theorem sUnsummed_c (w : World) (v : Value) (l : List Int) (h : Ints 1 w v l) :
    Calls Try.prog 68 #[v] w (Ret w fun r w' => ∃ a n c, r = .tuple #[.slice a n c, .bool (unsumOk l)] ∧ (unsumOk l = true → OwnI w.heap.size 2 1 w' (.slice a n c) (l.take (l.length - 1)))) := by
  obtain ⟨a, cap, rfl, hcap, hm, ha⟩ := h.one
  unfold maxLen at hm
  by_cases h0 : l.length = 0
  · have hu : unsumOk l = false := by simp [unsumOk, h0]
    have hr : rowOk l = true := by rw [List.eq_nil_of_length_eq_zero h0]; rfl
    have HU := Lib.hid hu; have HR := Lib.hid hr
    have hl0 : ((l.length : Nat) : Int) = 0 := by omega
    have HA := Lib.hid ha
    clear ha hu hr
    rw [h0] at h hcap ⊢
    go_enter Try.func68, Try.ntmps68
    go_wp2_with (first | (go_at_call 49; refine (sRowOk_c _ _ _ h).mono ?_; rintro e w1 ⟨rfl, hx1⟩; rw [HR.out]))
    go_ret2
    refine ⟨_, rfl, by repeat' (first | (with_reducible exact Ext.refl _) | (with_reducible assumption) | (with_reducible refine Ext.drewN ?_ _) | (with_reducible refine Ext.drew ?_) | (with_reducible refine Ext.alloc ?_ _) | (with_reducible refine Ext.setCell ?_ ?_ _) | (with_reducible refine Ext.setRow ?_ ?_ _) | (with_reducible exact Nat.le_refl _) | (with_reducible refine Ext.trans ?_ (by assumption)) | omega), _, _, _, by rw [HU.out]; rfl, fun h => by rw [HU.out] at h; cases h⟩
  cases hr : rowOk l
  · have hu : unsumOk l = false := by simp [unsumOk, hr]
    have HU := Lib.hid hu; have HR := Lib.hid hr
    have h0' : decide (((l.length : Nat) : Int) = 0) = false := by simp only [decide_eq_false_iff_not]; omega
    have h0'' : ¬ ((l.length : Nat) : Int) = 0 := by omega
    have HA := Lib.hid ha
    clear ha hu hr
    go_enter Try.func68, Try.ntmps68
    go_wp2_with (first | (go_at_call 49; refine (sRowOk_c _ _ _ h).mono ?_; rintro e w1 ⟨rfl, hx1⟩; rw [HR.out]))
    go_ret2
    refine ⟨_, rfl, by repeat' (first | (with_reducible exact Ext.refl _) | (with_reducible assumption) | (with_reducible refine Ext.drewN ?_ _) | (with_reducible refine Ext.drew ?_) | (with_reducible refine Ext.alloc ?_ _) | (with_reducible refine Ext.setCell ?_ ?_ _) | (with_reducible refine Ext.setRow ?_ ?_ _) | (with_reducible exact Nat.le_refl _) | (with_reducible refine Ext.trans ?_ (by assumption)) | omega), _, _, _, by rw [HU.out]; rfl, fun h => by rw [HU.out] at h; cases h⟩
  have hlen := (rowOk_len hr).1
  obtain ⟨z, b1, o1, hz, rfl, hb1, c⟩ := ha (l.length - 1) (by omega)
  have hu := unsum_last hr (by omega) hz
  have HU := Lib.hid hu; have HR := Lib.hid hr
  have h0' : decide (((l.length : Nat) : Int) = 0) = false := by simp only [decide_eq_false_iff_not]; omega
  have h0'' : ¬ ((l.length : Nat) : Int) = 0 := by omega
  have hlast : ((l.length : Nat) : Int) - 1 = ((l.length - 1 : Nat) : Int) := by omega
  obtain ⟨m, hm'⟩ : ∃ m, m = l.length - 1 := ⟨_, rfl⟩
  rw [← hm'] at hlast c hz hu
  have hml : m < l.length := by omega
  have HT := Lib.hid (rowOk_take (m := m) hr)
  have HM := Lib.hid hm'; have HA := Lib.hid ha
  clear ha hr hz hm'
  go_enter Try.func68, Try.ntmps68
  go_wp2_with (first | (go_at_call 49; refine (sRowOk_c _ _ _ h).mono ?_; rintro e w1 ⟨rfl, hx1⟩; rw [HR.out]) | (go_at_call 50; refine (l1Copy_c _ _ _ ((h.take (Nat.le_of_lt hml)).ext hx1) (by simp; omega)).mono ?_; rintro e w3 ⟨_, rfl, hx3, g3⟩; obtain ⟨ta, tn, tc, rfl⟩ := g3.shape))
  have E0 : Ext w w3 := hx1.trans hx3
  refine wp_region_ext (by kernel_rfl) (by kernel_rfl) ?_
  repeat (first | go_big_quiet_skip | (go_big_quiet_want; first | (refine quiet_load _ _ _ ?_ rfl rfl (fun wq hq => ?_) ?_; rotate_left; (focus (have y0 := (E0.trans hq).cell c; go_simp; first | done | rfl)); (try simp only [Act.put, List.setIfInBounds_toArray, List.set_cons_zero, List.set_cons_succ]); go_big_quiet_on) | (go_big_quiet_op; first | go_big_quiet_on | (refine ⟨_, fun _ _ => rfl, ?_⟩; go_big_quiet_on) | (apply Exists.intro; refine ⟨fun wq hq => ?_, ?_⟩; (focus (first | exact call_ext hq (sSumOf_c wq _ _ ((OwnI.ints g3).ext hq) HT.out))); go_big_quiet_on))))
  refine wpQuiet_nil ?_
  intro w2 hx2
  by_cases hs : sumOf (l.take m) = z
  · have hn : decide (sumOf (l.take m) = z) = true := by simp [hs]
    have hn' : unsumOk l = true := by rw [HU.out, ← HM.out]; exact hn
    have HN := Lib.hid hn'
    clear hn'
    go_wp2_with fail
    go_ret2
    have hz1 := hx1.size
    exact ⟨_, rfl, E0.trans hx2, _, _, _, by rw [HN.out]; rfl, fun _ => by rw [← HM.out]; exact OwnI.mono (OwnI.ext g3 hx2) hz1⟩
  · have hn : decide (sumOf (l.take m) = z) = false := by simp [hs]
    have hn' : unsumOk l = false := by rw [HU.out, ← HM.out]; exact hn
    have HN := Lib.hid hn'
    clear hn'
    go_wp2_with fail
    go_ret2
    refine ⟨_, rfl, by repeat' (first | (with_reducible exact Ext.refl _) | (with_reducible assumption) | (with_reducible refine Ext.drewN ?_ _) | (with_reducible refine Ext.drew ?_) | (with_reducible refine Ext.alloc ?_ _) | (with_reducible refine Ext.setCell ?_ ?_ _) | (with_reducible refine Ext.setRow ?_ ?_ _) | (with_reducible exact Nat.le_refl _) | (with_reducible refine Ext.trans ?_ (by assumption)) | omega), _, _, _, by rw [HN.out]; rfl, fun h => by rw [HN.out] at h; cases h⟩
set_option maxHeartbeats 1600000 in
set_option maxRecDepth 100000 in
theorem unsummed_c (w : World) (v : Value) (l : List Int) (h : Ints 1 w v l) :
    Calls Try.prog 72 #[v] w (Ret w fun r w' => ∃ a n c, r = .tuple #[.slice a n c, .bool (unsumOk l)] ∧ (unsumOk l = true → OwnI w.heap.size 2 1 w' (.slice a n c) (l.take (l.length - 1)))) := by
  obtain ⟨a, cap, rfl, hcap, hm, ha⟩ := h.one
  unfold maxLen at hm
  by_cases h0 : l.length = 0
  · have hu : unsumOk l = false := by simp [unsumOk, h0]
    have hr : rowOk l = true := by rw [List.eq_nil_of_length_eq_zero h0]; rfl
    have HU := Lib.hid hu; have HR := Lib.hid hr
    have hl0 : ((l.length : Nat) : Int) = 0 := by omega
    have HA := Lib.hid ha
    clear ha hu hr
    rw [h0] at h hcap ⊢
    go_enter Try.func72, Try.ntmps72
    go_wp2_with (first | (go_at_call 60; refine (rowOk_c _ _ _ h).mono ?_; rintro e w1 ⟨rfl, hx1⟩; rw [HR.out]))
    go_ret2
    refine ⟨_, rfl, by repeat' (first | (with_reducible exact Ext.refl _) | (with_reducible assumption) | (with_reducible refine Ext.drewN ?_ _) | (with_reducible refine Ext.drew ?_) | (with_reducible refine Ext.alloc ?_ _) | (with_reducible refine Ext.setCell ?_ ?_ _) | (with_reducible refine Ext.setRow ?_ ?_ _) | (with_reducible exact Nat.le_refl _) | (with_reducible refine Ext.trans ?_ (by assumption)) | omega), _, _, _, by rw [HU.out]; rfl, fun h => by rw [HU.out] at h; cases h⟩
  cases hr : rowOk l
  · have hu : unsumOk l = false := by simp [unsumOk, hr]
    have HU := Lib.hid hu; have HR := Lib.hid hr
    have h0' : decide (((l.length : Nat) : Int) = 0) = false := by simp only [decide_eq_false_iff_not]; omega
    have h0'' : ¬ ((l.length : Nat) : Int) = 0 := by omega
    have HA := Lib.hid ha
    clear ha hu hr
    go_enter Try.func72, Try.ntmps72
    go_wp2_with (first | (go_at_call 60; refine (rowOk_c _ _ _ h).mono ?_; rintro e w1 ⟨rfl, hx1⟩; rw [HR.out]))
    go_ret2
    refine ⟨_, rfl, by repeat' (first | (with_reducible exact Ext.refl _) | (with_reducible assumption) | (with_reducible refine Ext.drewN ?_ _) | (with_reducible refine Ext.drew ?_) | (with_reducible refine Ext.alloc ?_ _) | (with_reducible refine Ext.setCell ?_ ?_ _) | (with_reducible refine Ext.setRow ?_ ?_ _) | (with_reducible exact Nat.le_refl _) | (with_reducible refine Ext.trans ?_ (by assumption)) | omega), _, _, _, by rw [HU.out]; rfl, fun h => by rw [HU.out] at h; cases h⟩
  have hlen := (rowOk_len hr).1
  obtain ⟨z, b1, o1, hz, rfl, hb1, c⟩ := ha (l.length - 1) (by omega)
  have hu := unsum_last hr (by omega) hz
  have HU := Lib.hid hu; have HR := Lib.hid hr
  have h0' : decide (((l.length : Nat) : Int) = 0) = false := by simp only [decide_eq_false_iff_not]; omega
  have h0'' : ¬ ((l.length : Nat) : Int) = 0 := by omega
  have hlast : ((l.length : Nat) : Int) - 1 = ((l.length - 1 : Nat) : Int) := by omega
  obtain ⟨m, hm'⟩ : ∃ m, m = l.length - 1 := ⟨_, rfl⟩
  rw [← hm'] at hlast c hz hu
  have hml : m < l.length := by omega
  have HT := Lib.hid (rowOk_take (m := m) hr)
  have HM := Lib.hid hm'; have HA := Lib.hid ha
  clear ha hr hz hm'
  go_enter Try.func72, Try.ntmps72
  go_wp2_with (first | (go_at_call 60; refine (rowOk_c _ _ _ h).mono ?_; rintro e w1 ⟨rfl, hx1⟩; rw [HR.out]))
  have E0 : Ext w w1 := hx1
  refine wp_region_ext (by kernel_rfl) (by kernel_rfl) ?_
  repeat (first | go_big_quiet_skip | (go_big_quiet_want; first | (refine quiet_load _ _ _ ?_ rfl rfl (fun wq hq => ?_) ?_; rotate_left; (focus (have y0 := (E0.trans hq).cell c; go_simp; first | done | rfl)); (try simp only [Act.put, List.setIfInBounds_toArray, List.set_cons_zero, List.set_cons_succ]); go_big_quiet_on) | (go_big_quiet_op; first | go_big_quiet_on | (refine ⟨_, fun _ _ => rfl, ?_⟩; go_big_quiet_on) | (apply Exists.intro; refine ⟨fun wq hq => ?_, ?_⟩; (focus (first | exact call_ext hq (checksum_c wq _ _ ((h.take (Nat.le_of_lt hml)).ext (E0.trans hq)) HT.out))); go_big_quiet_on))))
  refine wpQuiet_nil ?_
  intro w2 hx2
  by_cases hs : sumOf (l.take m) = z
  · have hn : decide (sumOf (l.take m) = z) = true := by simp [hs]
    have hn' : unsumOk l = true := by rw [HU.out, ← HM.out]; exact hn
    have HN := Lib.hid hn'
    clear hn'
    go_wp2_with (first | (go_at_call 61; refine (copyRow_c _ _ _ ((h.take (Nat.le_of_lt hml)).ext (E0.trans hx2)) (by simp; omega)).mono ?_; rintro e w3 ⟨_, rfl, hx3, g3⟩; obtain ⟨ta, tn, tc, rfl⟩ := g3.shape))
    go_ret2
    have hz3 := (E0.trans hx2).size
    exact ⟨_, rfl, (E0.trans hx2).trans hx3, _, _, _, by rw [HN.out]; rfl, fun _ => by rw [← HM.out]; exact OwnI.mono g3 hz3⟩
  · have hn : decide (sumOf (l.take m) = z) = false := by simp [hs]
    have hn' : unsumOk l = false := by rw [HU.out, ← HM.out]; exact hn
    have HN := Lib.hid hn'
    clear hn'
    go_wp2_with fail
    go_ret2
    refine ⟨_, rfl, E0.trans hx2, _, _, _, by rw [HN.out]; rfl, fun h => by rw [HN.out] at h; cases h⟩

end Go.Proofs.Ytemhbbpbmgpcaaa
