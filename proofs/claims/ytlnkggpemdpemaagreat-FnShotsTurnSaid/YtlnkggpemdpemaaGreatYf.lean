/- Contracts and plain laws: Q11a Sum Num Num2. -/
import Derived.Test.YtlnkggpemdpemaaGreatYa
import Derived.Test.YtlnkggpemdpemaaGreatYe
import Derived.Test.YtlnkggpemdpemaaGreatYd
set_option linter.unusedSimpArgs false
set_option linter.unusedVariables false
set_option maxHeartbeats 8000000
set_option maxRecDepth 100000
namespace Go.G8
open Go.RowKit
def stateSmall (s : DState) : Prop := s.Pairs.length ≤ 1000000 ∧ s.Jobs.length ≤ 1000000
end Go.G8
namespace Go.Proofs.YtlnkggpemdpemaaGreat
open Go.RowKit Go.G8
theorem l14Copy_c (w : World) (s0_0 : Value) (l0_0 : List DPair) (h0_0 : Ints 2 w s0_0 (flPair l0_0)) (e0 : l0_0.length ≤ 1000000) :
  Calls Tryz.prog 69 #[s0_0] w (Ret w fun r0 w' => OwnI w.heap.size 113 2 w' r0 (flPair l0_0)) := by
 obtain ⟨a0, n0, k0, rfl⟩ := h0_0.shape
 obtain ⟨i0, hi, hz0, hz1, hz2⟩ := info_parts info_Pair
 go_enter Tryz.func69, Tryz.ntmps69
 go_wp2_with (first | (at_builtin; refine wp_append_fresh rfl (.tmp 3) (.tmp 4) 34 rfl 113 i0 _ 2 16 Tryz.underlying34 hi hz0 hz1 hz2 rfl dC w.heap.size (by simp) rfl (.slice a0 n0 k0) ((flPair l0_0).map (.int .i64)) rfl h0_0 (ints_oneCell _ _) 1000000 (by have := length_flPair l0_0; simp; omega) (by unfold maxLen; omega) oM ?_; rotate_right; intro t5 w1 g5 hx1; obtain ⟨ta5, tn5, tc5, rfl⟩ := g5.sl.shape))
 go_ret
 exact ⟨_, rfl, hx1, g5⟩
theorem copyPairs_c (w : World) (s0_0 : Value) (l0_0 : List DPair) (h0_0 : Ints 2 w s0_0 (flPair l0_0)) (e0 : l0_0.length ≤ 1000000) :
  Calls Tryz.prog 107 #[s0_0] w (Ret w fun r0 w' => OwnI w.heap.size 113 2 w' r0 (flPair l0_0)) := by
 obtain ⟨a0, n0, k0, rfl⟩ := h0_0.shape
 obtain ⟨i0, hi, hz0, hz1, hz2⟩ := info_parts info_Pair
 go_enter Tryz.func107, Tryz.ntmps107
 go_wp2_with (first | (at_builtin; refine wp_append_fresh rfl (.tmp 3) (.tmp 4) 34 rfl 113 i0 _ 2 16 Tryz.underlying34 hi hz0 hz1 hz2 rfl dC w.heap.size (by simp) rfl (.slice a0 n0 k0) ((flPair l0_0).map (.int .i64)) rfl h0_0 (ints_oneCell _ _) 1000000 (by have := length_flPair l0_0; simp; omega) (by unfold maxLen; omega) oM ?_; rotate_right; intro t5 w1 g5 hx1; obtain ⟨ta5, tn5, tc5, rfl⟩ := g5.sl.shape))
 go_ret
 exact ⟨_, rfl, hx1, g5⟩
theorem l15Copy_c (w : World) (s0_0 : Value) (l0_0 : List DJob) (h0_0 : Ints 5 w s0_0 (flJob l0_0)) (e0 : l0_0.length ≤ 1000000) :
  Calls Tryz.prog 70 #[s0_0] w (Ret w fun r0 w' => OwnI w.heap.size 95 5 w' r0 (flJob l0_0)) := by
 obtain ⟨a0, n0, k0, rfl⟩ := h0_0.shape
 obtain ⟨i0, hi, hz0, hz1, hz2⟩ := info_parts info_Job
 go_enter Tryz.func70, Tryz.ntmps70
 go_wp2_with (first | (at_builtin; refine wp_append_fresh rfl (.tmp 3) (.tmp 4) 35 rfl 95 i0 _ 5 40 Tryz.underlying35 hi hz0 hz1 hz2 rfl dC w.heap.size (by simp) rfl (.slice a0 n0 k0) ((flJob l0_0).map (.int .i64)) rfl h0_0 (ints_oneCell _ _) 1000000 (by have := length_flJob l0_0; simp; omega) (by unfold maxLen; omega) oM ?_; rotate_right; intro t5 w1 g5 hx1; obtain ⟨ta5, tn5, tc5, rfl⟩ := g5.sl.shape))
 go_ret
 exact ⟨_, rfl, hx1, g5⟩
theorem copyJobs_c (w : World) (s0_0 : Value) (l0_0 : List DJob) (h0_0 : Ints 5 w s0_0 (flJob l0_0)) (e0 : l0_0.length ≤ 1000000) :
  Calls Tryz.prog 108 #[s0_0] w (Ret w fun r0 w' => OwnI w.heap.size 95 5 w' r0 (flJob l0_0)) := by
 obtain ⟨a0, n0, k0, rfl⟩ := h0_0.shape
 obtain ⟨i0, hi, hz0, hz1, hz2⟩ := info_parts info_Job
 go_enter Tryz.func108, Tryz.ntmps108
 go_wp2_with (first | (at_builtin; refine wp_append_fresh rfl (.tmp 3) (.tmp 4) 35 rfl 95 i0 _ 5 40 Tryz.underlying35 hi hz0 hz1 hz2 rfl dC w.heap.size (by simp) rfl (.slice a0 n0 k0) ((flJob l0_0).map (.int .i64)) rfl h0_0 (ints_oneCell _ _) 1000000 (by have := length_flJob l0_0; simp; omega) (by unfold maxLen; omega) oM ?_; rotate_right; intro t5 w1 g5 hx1; obtain ⟨ta5, tn5, tc5, rfl⟩ := g5.sl.shape))
 go_ret
 exact ⟨_, rfl, hx1, g5⟩
theorem copyState_k {w : World} {v : Value} {s : DState} (h : RdState w v s) (e0 : stateSmall s) : Calls Tryz.prog 80 #[v] w (Ret w fun r w' => IsState w.heap.size w' r s) := by
 obtain ⟨e4, e5⟩ := e0
 have H := h
 obtain ⟨t2, t3, rfl, h2, h3⟩ := h
 obtain ⟨a2, n2, k2, rfl⟩ := h2.shape
 obtain ⟨a3, n3, k3, rfl⟩ := h3.shape
 obtain ⟨WP, hWP⟩ : ∃ WP, WP = w.alloc (.cells #[.int .i64 s.Index, .int .i64 s.Time, .slice a2 n2 k2, .slice a3 n3 k3, .int .i64 s.Lease.Holder, .int .i64 s.Lease.Epoch, .int .i64 s.Lease.Until] 39) := ⟨_, rfl⟩
 have hEP : Ext w WP := by rw [hWP]; exact (Ext.refl _).alloc _
 have hsP : WP.heap.size = w.heap.size + 1 := by rw [hWP]; simp
 have KP : Blk WP w.heap.size 39 #[.int .i64 s.Index, .int .i64 s.Time, .slice a2 n2 k2, .slice a3 n3 k3, .int .i64 s.Lease.Holder, .int .i64 s.Lease.Epoch, .int .i64 s.Lease.Until] := by rw [hWP]; exact Blk.new _ _ _
 obtain ⟨W0, hW0⟩ : ∃ W0, W0 = WP.alloc (.cells #[.int .i64 0, .int .i64 0, .slice none 0 0, .slice none 0 0, .int .i64 0, .int .i64 0, .int .i64 0] 39) := ⟨_, rfl⟩
 have hE0 : Ext WP W0 := by rw [hW0]; exact (Ext.refl _).alloc _
 have hs0 : W0.heap.size = w.heap.size + 1 + 1 := by rw [hW0]; simp [hsP]
 have KR : Blk W0 (w.heap.size + 1) 39 #[.int .i64 0, .int .i64 0, .slice none 0 0, .slice none 0 0, .int .i64 0, .int .i64 0, .int .i64 0] := by rw [hW0, ← hsP]; exact Blk.new _ _ _
 have CP0 := (KP.ext hE0).cell; have FP0 := (KP.ext hE0).frozen
 have CR0 := KR.cell; have FR0 := KR.frozen
 have H0 := Lib.hid hW0; have HP := Lib.hid hWP
 clear hW0 hWP
 go_enter Tryz.func80, Tryz.ntmps80
 go_wp2_with fail
 rw [← HP.out, ← H0.out]
 go_region_held3 (fun w' => w'.cell? ⟨w.heap.size, 0, none⟩ = some (.int .i64 s.Index) ∧ w'.cell? ⟨w.heap.size, 1, none⟩ = some (.int .i64 s.Time) ∧ w'.cell? ⟨w.heap.size, 2, none⟩ = some (.slice a2 n2 k2) ∧ w'.cell? ⟨w.heap.size, 3, none⟩ = some (.slice a3 n3 k3) ∧ w'.cell? ⟨w.heap.size, 4, none⟩ = some (.int .i64 s.Lease.Holder) ∧ w'.cell? ⟨w.heap.size, 5, none⟩ = some (.int .i64 s.Lease.Epoch) ∧ w'.cell? ⟨w.heap.size, 6, none⟩ = some (.int .i64 s.Lease.Until)) (first | (refine ⟨((KP.ext ?_).cell 0).trans (by simp), ((KP.ext ?_).cell 1).trans (by simp), ((KP.ext ?_).cell 2).trans (by simp), ((KP.ext ?_).cell 3).trans (by simp), ((KP.ext ?_).cell 4).trans (by simp), ((KP.ext ?_).cell 5).trans (by simp), ((KP.ext ?_).cell 6).trans (by simp)⟩ <;> (exact xT); done)) (first | (go_at_call 107; refine (copyPairs_c _ _ s.Pairs ((h2.ext hEP).ext xT) e4).mono ?_; rintro e wa ⟨_, rfl, hxwa, ga⟩; obtain ⟨b2, m2, j2, rfl⟩ := ga.shape; have hzwa := hxwa.size; (try simp only [World.size_setCell, size_drew] at hzwa); have KRwa : Blk wa (w.heap.size + 1) _ _ := KR.ext xT; have CRwa := KRwa.cell; have FRwa := KRwa.frozen) | (go_at_call 108; refine (copyJobs_c _ _ s.Jobs ((h3.ext hEP).ext xT) e5).mono ?_; rintro e wb ⟨_, rfl, hxwb, gb⟩; obtain ⟨b3, m3, j3, rfl⟩ := gb.shape; have hzwb := hxwb.size; (try simp only [World.size_setCell, size_drew] at hzwb); have KRwb : Blk wb (w.heap.size + 1) _ _ := KR.ext xT; have CRwb := KRwb.cell; have FRwb := KRwb.frozen))
 all_goals
  go_wp2_with fail
  refine bodyPost_ret (by simp [results, Tryz.results80, go_sem, *]; try rfl) rfl ?_
  have hq : w.heap.size + 1 < wa.heap.size := by have : W0.heap.size ≤ wa.heap.size := hzwa; omega
  have hr : w.heap.size + 1 < W0.heap.size := by omega
  refine ⟨_, rfl, ?_, _, _, rfl, OwnI.mono (B := W0.heap.size) (OwnI.keep (Own.ext ga hxwb) chgT) oM, OwnI.mono (B := W0.heap.size) (OwnI.keep (OwnI.mono gb hzwa) chgT) oM⟩
  exact Ext.trans hEP xT
theorem l17Copy_k {w : World} {v : Value} {s : DState} (h : RdState w v s) (e0 : stateSmall s) : Calls Tryz.prog 39 #[v] w (Ret w fun r w' => IsState w.heap.size w' r s) := by
 obtain ⟨e4, e5⟩ := e0
 have H := h
 obtain ⟨t2, t3, rfl, h2, h3⟩ := h
 obtain ⟨a2, n2, k2, rfl⟩ := h2.shape
 obtain ⟨a3, n3, k3, rfl⟩ := h3.shape
 obtain ⟨WP, hWP⟩ : ∃ WP, WP = w.alloc (.cells #[.int .i64 s.Index, .int .i64 s.Time, .slice a2 n2 k2, .slice a3 n3 k3, .int .i64 s.Lease.Holder, .int .i64 s.Lease.Epoch, .int .i64 s.Lease.Until] 39) := ⟨_, rfl⟩
 have hEP : Ext w WP := by rw [hWP]; exact (Ext.refl _).alloc _
 have hsP : WP.heap.size = w.heap.size + 1 := by rw [hWP]; simp
 have KP : Blk WP w.heap.size 39 #[.int .i64 s.Index, .int .i64 s.Time, .slice a2 n2 k2, .slice a3 n3 k3, .int .i64 s.Lease.Holder, .int .i64 s.Lease.Epoch, .int .i64 s.Lease.Until] := by rw [hWP]; exact Blk.new _ _ _
 obtain ⟨W0, hW0⟩ : ∃ W0, W0 = WP.alloc (.cells #[.int .i64 0, .int .i64 0, .slice none 0 0, .slice none 0 0, .int .i64 0, .int .i64 0, .int .i64 0] 39) := ⟨_, rfl⟩
 have hE0 : Ext WP W0 := by rw [hW0]; exact (Ext.refl _).alloc _
 have hs0 : W0.heap.size = w.heap.size + 1 + 1 := by rw [hW0]; simp [hsP]
 have KR : Blk W0 (w.heap.size + 1) 39 #[.int .i64 0, .int .i64 0, .slice none 0 0, .slice none 0 0, .int .i64 0, .int .i64 0, .int .i64 0] := by rw [hW0, ← hsP]; exact Blk.new _ _ _
 have CP0 := (KP.ext hE0).cell; have FP0 := (KP.ext hE0).frozen
 have CR0 := KR.cell; have FR0 := KR.frozen
 have H0 := Lib.hid hW0; have HP := Lib.hid hWP
 clear hW0 hWP
 go_enter Tryz.func39, Tryz.ntmps39
 go_wp2_with fail
 rw [← HP.out, ← H0.out]
 refine (l14Copy_c _ _ s.Pairs (h2.ext (hEP.trans hE0)) e4).mono ?_
 rintro e wa ⟨_, rfl, hxa, ga⟩
 obtain ⟨b2, m2, j2, rfl⟩ := ga.shape
 have KPa := (KP.ext hE0).ext hxa; have KRa := KR.ext hxa
 have CPa := KPa.cell; have FPa := KPa.frozen; have CRa := KRa.cell; have FRa := KRa.frozen
 have hEa : Ext w wa := (hEP.trans hE0).trans hxa
 have hza := hxa.size
 go_wp2_with fail
 refine (l15Copy_c _ _ s.Jobs (h3.ext (Ext.setCell hEa (Nat.le_refl _) _)) e5).mono ?_
 rintro e wb ⟨_, rfl, hxb, gb⟩
 obtain ⟨b3, m3, j3, rfl⟩ := gb.shape
 have KPb := (KPa.set_ 2 (.slice b2 m2 j2)).ext hxb
 (try simp only [List.setIfInBounds_toArray, List.set_cons_zero, List.set_cons_succ] at KPb)
 have KRb := (KRa.far (p := ⟨w.heap.size, 2, none⟩) (by simp) (.slice b2 m2 j2)).ext hxb
 have CPb := KPb.cell; have FPb := KPb.frozen; have CRb := KRb.cell; have FRb := KRb.frozen
 clear CPa FPa CRa FRa CP0 FP0 CR0 FR0
 go_wp2_with fail
 refine bodyPost_ret (by simp [results, Tryz.results39, go_sem, *]; try rfl) rfl ?_
 simp only [World.size_setCell] at gb
 have hEb := Lib.hid ((Ext.setCell hEa (Nat.le_refl _) _).trans hxb)
 clear CPb FPb CRb FRb
 refine ⟨_, rfl, by have hEc := hEb.out; clear hxb; exact xT, _, _, rfl, OwnI.mono (B := W0.heap.size) (OwnI.keep ga chgT) oM, OwnI.mono (B := W0.heap.size) (OwnI.keep (OwnI.mono gb hza) chgT) oM⟩
end Go.Proofs.YtlnkggpemdpemaaGreat
namespace Go.G8
open Go.RowKit
def sumStep (s x : Int) : Int := (131 * s + x + 1) % 999999937
def sumOf (l : List Int) : Int := l.foldl sumStep 7
def withSum (l : List Int) : List Int := if rowOk l && decide (l.length < 48) then l ++ [sumOf l] else []
theorem sumStep_low {s x : Int} (hs : 0 ≤ s) (hx : 0 ≤ x) : 0 ≤ sumStep s x ∧ sumStep s x < 999999937 := by
 unfold sumStep
 exact ⟨Int.emod_nonneg _ dC, Int.emod_lt_of_pos _ dC⟩
theorem rowOk_len {l : List Int} (h : rowOk l = true) : l.length ≤ 48 ∧ ∀ x, x ∈ l → 0 ≤ x ∧ x ≤ 1000000000 := by
 simp only [rowOk, Bool.and_eq_true, decide_eq_true_eq, List.all_eq_true] at h
 exact ⟨h.1, fun x hx => inb_true.1 (h.2 x hx)⟩
theorem sumOf_take {l : List Int} {k : Nat} {x : Int} (h : l[k]? = some x) : sumOf (l.take (k + 1)) = sumStep (sumOf (l.take k)) x := by
 unfold sumOf
 rw [List.take_add_one, h, List.foldl_append]; rfl
end Go.G8
namespace Go.Proofs.YtlnkggpemdpemaaGreat
open Go.RowKit Go.G8
theorem checksum_c (w : World) (s0_0 : Value) (l0_0 : List Int) (h0_0 : Ints 1 w s0_0 l0_0) (hr : rowOk l0_0 = true) :
  Calls Tryz.prog 150 #[s0_0] w (RetV w (.int .i64 (sumOf l0_0))) := by
 obtain ⟨a, cap, rfl, hcap, hm, ha⟩ := h0_0.one
 obtain ⟨hl, hx⟩ := rowOk_len hr
 have HA := Lib.hid ha; have HX := Lib.hid hx
 clear ha hx hr
 unfold maxLen at hm
 go_enter Tryz.func150, Tryz.ntmps150
 go_wp2_with fail
 go_loopw [3, 8] (fun s i wr => ∃ k : Nat, k ≤ l0_0.length ∧ i = .int .i64 k ∧ Ext w wr ∧ ∃ z : Int, s = .int .i64 z ∧ 0 ≤ z ∧ z < 999999937 ∧ Hid (z = sumOf (l0_0.take k))) (fun _ i _ => l0_0.length - (intOf i).toNat)
 case atStart => exact ⟨0, Nat.zero_le _, rfl, Ext.refl _, 7, rfl, by omega, by omega, Lib.hid rfl⟩
 case round =>
  obtain ⟨k, hk, rfl, he, z, rfl, hz0, hz1, hz⟩ := hrel
  by_cases hlt : k < l0_0.length
  ·
   obtain ⟨x, b1, o1, hx, rfl, _, c⟩ := HA.out k hlt
   have d0 := he.cell c
   obtain ⟨hx0, hx1⟩ := HX.out x (List.mem_of_getElem? hx)
   have HD := Lib.hid hx
   clear hx c
   obtain ⟨ht0, ht1⟩ := sumStep_low hz0 hx0
   unfold sumStep at ht0 ht1
   go_wp2
   go_roundw
   case rel => exact ⟨k + 1, by omega, by go_num, he, _, rfl, ht0, ht1, Lib.hid (by rw [sumOf_take HD.out, ← hz.out]; rfl)⟩
   case measure => simp [intOf]; omega
  obtain rfl : k = l0_0.length := by omega
  go_wp2
  go_ret
  have hz' := hz.out
  rw [List.take_length] at hz'
  exact ⟨congrArg (fun q : Int => Ending.returned (Value.int .i64 q)) hz', he⟩
theorem sSumOf_c (w : World) (s0_0 : Value) (l0_0 : List Int) (h0_0 : Ints 1 w s0_0 l0_0) (hr : rowOk l0_0 = true) :
  Calls Tryz.prog 180 #[s0_0] w (RetV w (.int .i64 (sumOf l0_0))) := by
 obtain ⟨a, cap, rfl, hcap, hm, ha⟩ := h0_0.one
 obtain ⟨hl, hx⟩ := rowOk_len hr
 have HA := Lib.hid ha; have HX := Lib.hid hx; have HRO := Lib.hid hr
 clear ha hx hr
 unfold maxLen at hm
 go_enter Tryz.func180, Tryz.ntmps180
 go_wp2_with fail
 refine (sRowOk_c _ _ _ h0_0).mono ?_
 rintro e w1 ⟨rfl, hx1⟩
 rw [HRO.out]
 go_wp2_with fail
 go_loopw [3, 4] (fun s i wr => ∃ k : Nat, k ≤ l0_0.length ∧ i = .int .i64 k ∧ Ext w wr ∧ ∃ z : Int, s = .int .i64 z ∧ 0 ≤ z ∧ z < 999999937 ∧ Hid (z = sumOf (l0_0.take k))) (fun _ i _ => l0_0.length - (intOf i).toNat)
 case atStart => exact ⟨0, Nat.zero_le _, rfl, hx1, 7, rfl, by omega, by omega, Lib.hid rfl⟩
 case round =>
  obtain ⟨k, hk, rfl, he, z, rfl, hz0, hz1, hz⟩ := hrel
  by_cases hlt : k < l0_0.length
  ·
   obtain ⟨x, b1, o1, hx, rfl, _, c⟩ := HA.out k hlt
   have d0 := he.cell c
   obtain ⟨hx0, hx2⟩ := HX.out x (List.mem_of_getElem? hx)
   have HD := Lib.hid hx
   clear hx c
   obtain ⟨ht0, ht1⟩ := sumStep_low hz0 hx0
   unfold sumStep at ht0 ht1
   go_wp2
   go_roundw
   case rel => exact ⟨k + 1, by omega, by go_num, he, _, rfl, ht0, ht1, Lib.hid (by rw [sumOf_take HD.out, ← hz.out]; rfl)⟩
   case measure => simp [intOf]; omega
  obtain rfl : k = l0_0.length := by omega
  go_wp2
  go_ret
  have hz' := hz.out
  rw [List.take_length] at hz'
  exact ⟨congrArg (fun q : Int => Ending.returned (Value.int .i64 q)) hz', he⟩
theorem sWithSum_c (w : World) (s0_0 : Value) (l0_0 : List Int) (h0_0 : Ints 1 w s0_0 l0_0) :
  Calls Tryz.prog 164 #[s0_0] w (Ret w fun r0 w' => OwnI w.heap.size 2 1 w' r0 (withSum l0_0)) := by
 obtain ⟨a, cap, rfl, hcap, hm, _⟩ := h0_0.one
 unfold maxLen at hm
 obtain ⟨i0, hi, hz0, hz1, hz2⟩ := info_parts info_Int64
 go_enter Tryz.func164, Tryz.ntmps164
 go_wp2_with fail
 refine (sRowOk_c _ _ _ h0_0).mono ?_
 rintro e w1 ⟨rfl, hx1⟩
 cases hro : rowOk l0_0
 ·
  have HRO := Lib.hid hro
  have HL : Hid True := Lib.hid trivial
  go_wp2_with fail
  go_ret
  refine ⟨_, rfl, ?_, ?_⟩
  ·
   exact xT
  rw [show withSum l0_0 = [] by simp [withSum, HRO.out, HL.out]]
  exact OwnI.mono (show OwnI w1.heap.size 2 1 (w1.alloc (.cells #[] 2)) (.slice (some ⟨w1.heap.size, 0, none⟩) 0 0) [] from Own.fresh w1 2 1) hx1.size
 have hle := (rowOk_len hro).1
 have HRO := Lib.hid hro
 clear hro
 by_cases h48 : l0_0.length < 48
 rotate_left
 ·
  have h8 : l0_0.length = 48 := by omega
  have HL : Hid (¬ l0_0.length < 48) := Lib.hid h48
  have h9 : ((l0_0.length : Nat) : Int) = 48 := by omega
  have h10 : decide (48 ≤ l0_0.length) = true := by simp; omega
  clear h48
  go_wp2_with fail
  go_ret
  refine ⟨_, rfl, ?_, ?_⟩
  ·
   exact xT
  rw [show withSum l0_0 = [] by simp [withSum, HRO.out, HL.out]]
  exact OwnI.mono (show OwnI w1.heap.size 2 1 (w1.alloc (.cells #[] 2)) (.slice (some ⟨w1.heap.size, 0, none⟩) 0 0) [] from Own.fresh w1 2 1) hx1.size
 have h9 : decide (((l0_0.length : Nat) : Int) = 48) = false := by simp; omega
 have h10 : decide (48 ≤ l0_0.length) = false := by simp; omega
 have HL := Lib.hid h48
 go_wp2_with (first | (go_at_call 68; refine (l1Copy_c _ _ _ (h0_0.ext hx1) oM).mono ?_; rintro e w2 ⟨_, rfl, hx2, g2⟩; obtain ⟨ta, tn, tc, rfl⟩ := g2.shape; have hz2' := hx2.size) | (go_at_call 180; refine (sSumOf_c _ _ _ ((h0_0.ext hx1).ext hx2) HRO.out).mono ?_; rintro e w3 ⟨rfl, hx3⟩; have hz3' := hx3.size) | (at_builtin; refine wp_append rfl (.tmp 13) (.tmp 16) 49 rfl 2 i0 _ 1 8 Tryz.underlying49 hi hz0 hz1 hz2 rfl dC w1.heap.size _ _ rfl (Own.ext (Own.ext g2 hx3) ((Ext.refl w3).alloc _)) _ ([sumOf l0_0].map (.int .i64)) rfl (Sl.one w3 #[.int .i64 (sumOf l0_0)] _ 1 rfl) (ints_oneCell _ _) 100 (by simp; omega) (by unfold maxLen; omega) oM (by simp; omega) w1 ((hx2.trans hx3).alloc _) (Nat.le_refl _) ?_; rotate_right; intro v1 wa hown1 hea _))
 go_ret
 refine ⟨_, rfl, hx1.trans hea, ?_⟩
 rw [show withSum l0_0 = l0_0 ++ [sumOf l0_0] by simp [withSum, HRO.out, HL.out]]
 refine OwnI.mono (B := w1.heap.size) ?_ hx1.size
 simpa [OwnI] using hown1
theorem withSum_c (w : World) (s0_0 : Value) (l0_0 : List Int) (h0_0 : Ints 1 w s0_0 l0_0) :
  Calls Tryz.prog 113 #[s0_0] w (Ret w fun r0 w' => OwnI w.heap.size 2 1 w' r0 (withSum l0_0)) := by
 obtain ⟨a, cap, rfl, hcap, hm, _⟩ := h0_0.one
 unfold maxLen at hm
 obtain ⟨i0, hi, hz0, hz1, hz2⟩ := info_parts info_Int64
 go_enter Tryz.func113, Tryz.ntmps113
 go_wp2_with fail
 refine (rowOk_c _ _ _ h0_0).mono ?_
 rintro e w1 ⟨rfl, hx1⟩
 cases hro : rowOk l0_0
 ·
  have HRO := Lib.hid hro
  have HL : Hid True := Lib.hid trivial
  go_wp2_with fail
  go_ret
  refine ⟨_, rfl, ?_, ?_⟩
  ·
   exact xT
  rw [show withSum l0_0 = [] by simp [withSum, HRO.out, HL.out]]
  exact OwnI.nil _ _ _ _
 have hle := (rowOk_len hro).1
 have HRO := Lib.hid hro
 clear hro
 by_cases h48 : l0_0.length < 48
 rotate_left
 ·
  have h8 : l0_0.length = 48 := by omega
  have HL : Hid (¬ l0_0.length < 48) := Lib.hid h48
  have h9 : ((l0_0.length : Nat) : Int) = 48 := by omega
  have h10 : decide (48 ≤ l0_0.length) = true := by simp; omega
  clear h48
  go_wp2_with fail
  go_ret
  refine ⟨_, rfl, ?_, ?_⟩
  ·
   exact xT
  rw [show withSum l0_0 = [] by simp [withSum, HRO.out, HL.out]]
  exact OwnI.nil _ _ _ _
 have h9 : decide (((l0_0.length : Nat) : Int) = 48) = false := by simp; omega
 have h10 : decide (48 ≤ l0_0.length) = false := by simp; omega
 have HL := Lib.hid h48
 go_wp2_with (first | (go_at_call 101; refine (copyRow_c _ _ _ (h0_0.ext hx1) oM).mono ?_; rintro e w2 ⟨_, rfl, hx2, g2⟩; obtain ⟨ta, tn, tc, rfl⟩ := g2.shape; have hz2' := hx2.size) | (go_at_call 150; refine (checksum_c _ _ _ ((h0_0.ext hx1).ext hx2) HRO.out).mono ?_; rintro e w3 ⟨rfl, hx3⟩; have hz3' := hx3.size) | (at_builtin; refine wp_append rfl (.tmp 12) (.tmp 15) 49 rfl 2 i0 _ 1 8 Tryz.underlying49 hi hz0 hz1 hz2 rfl dC w1.heap.size _ _ rfl (Own.ext (Own.ext g2 hx3) ((Ext.refl w3).alloc _)) _ ([sumOf l0_0].map (.int .i64)) rfl (Sl.one w3 #[.int .i64 (sumOf l0_0)] _ 1 rfl) (ints_oneCell _ _) 100 (by simp; omega) (by unfold maxLen; omega) oM (by simp; omega) w1 ((hx2.trans hx3).alloc _) (Nat.le_refl _) ?_; rotate_right; intro v1 wa hown1 hea _))
 go_ret
 refine ⟨_, rfl, hx1.trans hea, ?_⟩
 rw [show withSum l0_0 = l0_0 ++ [sumOf l0_0] by simp [withSum, HRO.out, HL.out]]
 refine OwnI.mono (B := w1.heap.size) ?_ hx1.size
 simpa [OwnI] using hown1
theorem put_c (w : World) (X B : Nat) (v : Value) (xs ys : List Int) (p : Int) (b : Nat) (hK : Blk w X 159 #[v, .int .i64 p]) (ho : OwnI B 2 1 w v xs) (hX : X < B) (hb : Blk w b 2 (ys.map (Value.int .i64)).toArray) (hl : xs.length + ys.length ≤ 1000000) (hB : B ≤ w.heap.size) :
  Calls Tryz.prog 147 #[.pointer (some ⟨X, 0, none⟩), .slice (some ⟨b, 0, none⟩) ys.length ys.length] w (fun e w' => ∃ r, e = .returned r ∧ ∃ v', Blk w' X 159 #[v', .int .i64 p] ∧ OwnI B 2 1 w' v' (xs ++ ys) ∧ w.heap.size ≤ w'.heap.size ∧ ∀ W0 : World, Ext W0 w → W0.heap.size ≤ X → Ext W0 w') := by
 obtain ⟨a0, n0, k0, rfl⟩ := ho.shape
 obtain ⟨i0, hi, hz0, hz1, hz2⟩ := info_parts info_Int64
 have CK := hK.cell; have FK := hK.frozen
 have hne : some X ≠ (Value.slice a0 n0 k0).ownBlock := fun e => by have := (Own.lt ho e.symm).1; omega
 go_enter Tryz.func147, Tryz.ntmps147
 go_wp2_with (first | (at_builtin; refine wp_append_at rfl (.tmp 8) (.tmp 9) 49 rfl 2 i0 _ 1 8 Tryz.underlying49 hi hz0 hz1 hz2 rfl dC B _ _ rfl ho ⟨b, 0, none⟩ ys.length ys.length (ys.map (.int .i64)) rfl (by simp) (fun j u hu => by rw [add_lit0, Nat.zero_add, hb.cell]; simpa using hu) (ints_oneCell _ _) 1000000 (by simp; omega) (by unfold maxLen; omega) oM hB ?_; rotate_right; intro v1 wa hown1 hga hat; obtain ⟨ta, tn, tc, rfl⟩ := hown1.sl.shape; have KA := hK.grown hga hne; have CKA := KA.cell; have FKA := KA.frozen))
 refine bodyPost_end (by simp [results, Tryz.results147, go_sem]; try rfl) rfl ?_
 refine ⟨_, rfl, .slice ta tn tc, ?_, ?_, ?_, fun W0 hW hs => ?_⟩
 ·
  have := KA.set_ 0 (.slice ta tn tc); simpa using this
 ·
  have h9 : OwnI B 2 1 wa (.slice ta tn tc) (xs ++ ys) := by simpa [OwnI] using hown1
  exact OwnI.keep h9 ((Chg.refl B wa).setLow hX _)
 ·
  have := hga.size; simp; omega
 exact Ext.setCell (Ext.own hW ho oM hga) hs _
theorem flPair_snoc (l : List DPair) (d : DPair) : flPair (l ++ [d]) = flPair l ++ [d.Key, d.Value] := by simp [flPair, DPair.ints]
theorem putPairs_c (w : World) (X B : Nat) (v : Value) (xs : List Int) (p : Int) (s : Value) (l : List DPair) (Wa : World) (hs : Ints 2 Wa s (flPair l)) (hEa : Ext Wa w) (hWa : Wa.heap.size ≤ X) (hK : Blk w X 159 #[v, .int .i64 p]) (ho : OwnI B 2 1 w v xs) (hX : X < B) (hl : xs.length + 1 + l.length * 2 ≤ 100000) (hB : B ≤ w.heap.size) :
  Calls Tryz.prog 148 #[.pointer (some ⟨X, 0, none⟩), s] w (fun e w' => ∃ r, e = .returned r ∧ ∃ v', Blk w' X 159 #[v', .int .i64 p] ∧ OwnI B 2 1 w' v' (xs ++ ((l.length : Int) :: flPair l)) ∧ w.heap.size ≤ w'.heap.size ∧ ∀ W0 : World, Ext W0 w → W0.heap.size ≤ X → Ext W0 w') := by
 obtain ⟨a, cap, rfl, hcap, hm, ha⟩ := hs.recs (f := DPair.ints) (fun _ => rfl) dC
 have HA := Lib.hid ha
 clear ha
 unfold maxLen at hm
 go_enter Tryz.func148, Tryz.ntmps148
 go_wp2_with fail
 refine (put_c _ X B v xs [(l.length : Int)] p w.heap.size (hK.alloc _) (Own.ext ho ((Ext.refl _).alloc _)) hX (Blk.new _ _ _) (by simp; omega) (by simp; omega)).mono ?_
 rintro e w1 ⟨r, rfl, v1, K1, o1, hz1, hx1⟩
 simp only [World.size_alloc] at hz1
 have hy1 : ∀ W0 : World, Ext W0 w → W0.heap.size ≤ X → Ext W0 w1 := fun W0 h1 h2 => hx1 W0 (h1.alloc _) h2
 clear hx1
 go_wp2_with fail
 go_loopw [13] (fun i wr => ∃ k : Nat, k ≤ l.length ∧ i = .int .i64 k ∧ ∃ v2, Blk wr X 159 #[v2, .int .i64 p] ∧ OwnI B 2 1 wr v2 (xs ++ ((l.length : Int) :: flPair (l.take k))) ∧ w.heap.size ≤ wr.heap.size ∧ ∀ W0 : World, Ext W0 w → W0.heap.size ≤ X → Ext W0 wr) (fun i _ => l.length - (intOf i).toNat)
 case atStart => exact ⟨0, Nat.zero_le _, rfl, v1, K1, by simpa [flPair] using o1, by omega, hy1⟩
 case round =>
  obtain ⟨k, hk, rfl, v2, K2, o2, hz2, hy2⟩ := hrel
  by_cases hlt : k < l.length
  ·
   obtain ⟨d, b1, q1, hd, rfl, hb1, c⟩ := HA.out k hlt
   have hEw : Ext Wa wr := hy2 Wa hEa hWa
   have d0 := hEw.cell (c 0 _ dC rfl)
   have d1 := hEw.cell (c 1 _ dC rfl)
   (try simp only [Nat.add_zero] at d0)
   have HD := Lib.hid hd
   have HK := Lib.hid K2; have HO := Lib.hid o2
   have hlk : (flPair (l.take k)).length = k * 2 := by rw [length_flPair, List.length_take]; congr 1; omega
   clear hd c K2 o2
   go_wp2_with fail
   refine (put_c _ X B v2 _ [d.Key, d.Value] p (wr.heap.size + 1) ((HK.out.alloc _).alloc _) (Own.ext HO.out (((Ext.refl _).alloc _).alloc _)) hX (Blk.new2 _ _ _ _) (by simp [hlk]; omega) (by simp; omega)).mono ?_
   rintro e w3 ⟨r, rfl, v3, K3, o3, hz3, hx3⟩
   simp only [World.size_alloc] at hz3
   go_wp2_with fail
   go_roundw
   case rel => exact ⟨k + 1, by omega, by go_num, v3, K3, by rw [take_snoc HD.out, flPair_snoc]; simpa using o3, by omega, fun W0 h1 h2 => hx3 W0 (((hy2 W0 h1 h2).alloc _).alloc _) h2⟩
   case measure => simp [intOf]; omega
  obtain rfl : k = l.length := by omega
  rw [List.take_length] at o2
  go_wp2_with fail
  refine bodyPost_end (by simp [results, Tryz.results148, go_sem]; try rfl) rfl ?_
  exact ⟨_, rfl, v2, K2, o2, hz2, hy2⟩
theorem flJob_snoc (l : List DJob) (d : DJob) : flJob (l ++ [d]) = flJob l ++ [d.Id, d.Due, d.Key, d.Value, d.Fired] := by simp [flJob, DJob.ints]
theorem putJobs_c (w : World) (X B : Nat) (v : Value) (xs : List Int) (p : Int) (s : Value) (l : List DJob) (Wa : World) (hs : Ints 5 Wa s (flJob l)) (hEa : Ext Wa w) (hWa : Wa.heap.size ≤ X) (hK : Blk w X 159 #[v, .int .i64 p]) (ho : OwnI B 2 1 w v xs) (hX : X < B) (hl : xs.length + 1 + l.length * 5 ≤ 100000) (hB : B ≤ w.heap.size) :
  Calls Tryz.prog 149 #[.pointer (some ⟨X, 0, none⟩), s] w (fun e w' => ∃ r, e = .returned r ∧ ∃ v', Blk w' X 159 #[v', .int .i64 p] ∧ OwnI B 2 1 w' v' (xs ++ ((l.length : Int) :: flJob l)) ∧ w.heap.size ≤ w'.heap.size ∧ ∀ W0 : World, Ext W0 w → W0.heap.size ≤ X → Ext W0 w') := by
 obtain ⟨a, cap, rfl, hcap, hm, ha⟩ := hs.recs (f := DJob.ints) (fun _ => rfl) dC
 have HA := Lib.hid ha
 clear ha
 unfold maxLen at hm
 go_enter Tryz.func149, Tryz.ntmps149
 go_wp2_with fail
 refine (put_c _ X B v xs [(l.length : Int)] p w.heap.size (hK.alloc _) (Own.ext ho ((Ext.refl _).alloc _)) hX (Blk.new _ _ _) (by simp; omega) (by simp; omega)).mono ?_
 rintro e w1 ⟨r, rfl, v1, K1, o1, hz1, hx1⟩
 simp only [World.size_alloc] at hz1
 have hy1 : ∀ W0 : World, Ext W0 w → W0.heap.size ≤ X → Ext W0 w1 := fun W0 h1 h2 => hx1 W0 (h1.alloc _) h2
 clear hx1
 go_wp2_with fail
 go_loopw [13] (fun i wr => ∃ k : Nat, k ≤ l.length ∧ i = .int .i64 k ∧ ∃ v2, Blk wr X 159 #[v2, .int .i64 p] ∧ OwnI B 2 1 wr v2 (xs ++ ((l.length : Int) :: flJob (l.take k))) ∧ w.heap.size ≤ wr.heap.size ∧ ∀ W0 : World, Ext W0 w → W0.heap.size ≤ X → Ext W0 wr) (fun i _ => l.length - (intOf i).toNat)
 case atStart => exact ⟨0, Nat.zero_le _, rfl, v1, K1, by simpa [flJob] using o1, by omega, hy1⟩
 case round =>
  obtain ⟨k, hk, rfl, v2, K2, o2, hz2, hy2⟩ := hrel
  by_cases hlt : k < l.length
  ·
   obtain ⟨d, b1, q1, hd, rfl, hb1, c⟩ := HA.out k hlt
   have hEw : Ext Wa wr := hy2 Wa hEa hWa
   have d0 := hEw.cell (c 0 _ dC rfl)
   have d1 := hEw.cell (c 1 _ dC rfl)
   have d2 := hEw.cell (c 2 _ dC rfl)
   have d3 := hEw.cell (c 3 _ dC rfl)
   have d4 := hEw.cell (c 4 _ dC rfl)
   (try simp only [Nat.add_zero] at d0)
   have HD := Lib.hid hd
   have HK := Lib.hid K2; have HO := Lib.hid o2
   have hlk : (flJob (l.take k)).length = k * 5 := by rw [length_flJob, List.length_take]; congr 1; omega
   clear hd c K2 o2
   go_wp2_with fail
   refine (put_c _ X B v2 _ [d.Id, d.Due, d.Key, d.Value, d.Fired] p (wr.heap.size + 1) ((HK.out.alloc _).alloc _) (Own.ext HO.out (((Ext.refl _).alloc _).alloc _)) hX (Blk.new2 _ _ _ _) (by simp [hlk]; omega) (by simp; omega)).mono ?_
   rintro e w3 ⟨r, rfl, v3, K3, o3, hz3, hx3⟩
   simp only [World.size_alloc] at hz3
   go_wp2_with fail
   go_roundw
   case rel => exact ⟨k + 1, by omega, by go_num, v3, K3, by rw [take_snoc HD.out, flJob_snoc]; simpa using o3, by omega, fun W0 h1 h2 => hx3 W0 (((hy2 W0 h1 h2).alloc _).alloc _) h2⟩
   case measure => simp [intOf]; omega
  obtain rfl : k = l.length := by omega
  rw [List.take_length] at o2
  go_wp2_with fail
  refine bodyPost_end (by simp [results, Tryz.results149, go_sem]; try rfl) rfl ?_
  exact ⟨_, rfl, v2, K2, o2, hz2, hy2⟩
end Go.Proofs.YtlnkggpemdpemaaGreat
namespace Go.G8
open Go.RowKit
def stateNums (s : DState) : List Int := [s.Index, s.Time] ++ ((s.Pairs.length : Int) :: flPair s.Pairs) ++ ((s.Jobs.length : Int) :: flJob s.Jobs) ++ [s.Lease.Holder, s.Lease.Epoch, s.Lease.Until]
noncomputable def stateNumbers (s : DState) : List Int := if stateOk s then stateNums s else []
end Go.G8
namespace Go.Proofs.YtlnkggpemdpemaaGreat
open Go.RowKit Go.G8
theorem stateOk_lens {s : DState} (h : stateOk s = true) : s.Pairs.length ≤ 10 ∧ s.Jobs.length ≤ 8 := by
 simp only [stateOk, Bool.and_eq_true] at h
 obtain ⟨_, _, hp, hj, _⟩ := h
 exact ⟨PairsOk.len (pairsOk_iff.1 hp), (jobsOk_iff.1 hj).1⟩
theorem stateNumbers_c (w : World) (s : DState) (s2 s3 : Value) (h2 : Ints 2 w s2 (flPair s.Pairs)) (h3 : Ints 5 w s3 (flJob s.Jobs)) :
  Calls Tryz.prog 112 #[.agg #[.int .i64 s.Index, .int .i64 s.Time, s2, s3, .int .i64 s.Lease.Holder, .int .i64 s.Lease.Epoch, .int .i64 s.Lease.Until]] w (Ret w fun r w' => OwnI w.heap.size 2 1 w' r (stateNumbers s)) := by
 obtain ⟨a2, n2, k2, rfl⟩ := h2.shape
 obtain ⟨a3, n3, k3, rfl⟩ := h3.shape
 have hE0 : Ext w (w.alloc (.cells #[.int .i64 s.Index, .int .i64 s.Time, .slice a2 n2 k2, .slice a3 n3 k3, .int .i64 s.Lease.Holder, .int .i64 s.Lease.Epoch, .int .i64 s.Lease.Until] 39)) := (Ext.refl _).alloc _
 go_enter Tryz.func112, Tryz.ntmps112
 go_wp2_with fail
 refine (stateOk_c _ s.Index s.Time _ s.Pairs _ s.Jobs s.Lease.Holder s.Lease.Epoch s.Lease.Until (h2.ext hE0) (h3.ext hE0)).mono ?_
 rintro e w1 ⟨rfl, hx1⟩
 have KP1 := (Blk.new w 39 #[.int .i64 s.Index, .int .i64 s.Time, .slice a2 n2 k2, .slice a3 n3 k3, .int .i64 s.Lease.Holder, .int .i64 s.Lease.Epoch, .int .i64 s.Lease.Until]).ext hx1
 have CP1 := KP1.cell
 have hE1 : Ext w w1 := hE0.trans hx1
 have hz1 := hx1.size
 simp only [World.size_alloc] at hz1
 have hp1 : w.heap.size < w1.heap.size := by omega
 clear hx1
 cases hb : stateOk s
 ·
  go_wp2_with fail
  go_ret
  exact ⟨_, rfl, hE1, by rw [show stateNumbers s = [] by simp [stateNumbers, hb]]; exact OwnI.nil _ _ _ _⟩
 obtain ⟨hl1, hl2⟩ := stateOk_lens hb
 have HBB := Lib.hid hb
 clear hb
 go_wp2_with fail
 refine (put_c _ w1.heap.size (w1.heap.size + 1) (.slice none 0 0) [] [s.Index, s.Time] 0 (w1.heap.size + 1) ((Blk.new w1 _ _).alloc _) (OwnI.nil _ _ _ _) oM (Blk.new2 w1 _ _ _) (by simp) (by simp; try omega)).mono ?_
 rintro e w2 ⟨r2, rfl, v2, K2, o2, hz2, hy2⟩
 simp only [World.size_alloc] at hz2
 have E2 : Ext w1 w2 := hy2 w1 (((Ext.refl w1).alloc _).alloc _) (Nat.le_refl _)
 clear hy2
 have CP2 := (KP1.ext E2).cell; have hp2 : w.heap.size < w2.heap.size := by omega
 have HK2 := Lib.hid K2; have HO2 := Lib.hid o2
 clear K2 o2 CP1
 go_wp2_with fail
 refine (putPairs_c _ w1.heap.size (w1.heap.size + 1) v2 _ 0 _ s.Pairs w1 (h2.ext hE1) E2 (Nat.le_refl _) HK2.out HO2.out oM (by simp; omega) oM).mono ?_
 rintro e w3 ⟨r3, rfl, v3, K3, o3, hz3, hy3⟩
 have E3 : Ext w1 w3 := hy3 w1 E2 (Nat.le_refl _)
 clear hy3
 have CP3 := (KP1.ext E3).cell; have hp3 : w.heap.size < w3.heap.size := by omega
 have HK3 := Lib.hid K3; have HO3 := Lib.hid o3
 clear K3 o3 CP2
 go_wp2_with fail
 refine (putJobs_c _ w1.heap.size (w1.heap.size + 1) v3 _ 0 _ s.Jobs w1 (h3.ext hE1) E3 (Nat.le_refl _) HK3.out HO3.out oM (by simp [length_flPair]; omega) oM).mono ?_
 rintro e w4 ⟨r4, rfl, v4, K4, o4, hz4, hy4⟩
 have E4 : Ext w1 w4 := hy4 w1 E3 (Nat.le_refl _)
 clear hy4
 have CP4 := (KP1.ext E4).cell; have hp4 : w.heap.size < w4.heap.size := by omega
 have HK4 := Lib.hid K4; have HO4 := Lib.hid o4
 clear K4 o4 CP3
 go_wp2_with fail
 refine (put_c _ w1.heap.size (w1.heap.size + 1) v4 _ [s.Lease.Holder, s.Lease.Epoch, s.Lease.Until] 0 w4.heap.size (HK4.out.alloc _) (Own.ext HO4.out ((Ext.refl w4).alloc _)) oM (Blk.new w4 _ _) (by simp [length_flPair, length_flJob]; omega) (by simp; omega)).mono ?_
 rintro e w5 ⟨r5, rfl, v5, K5, o5, hz5, hy5⟩
 have E5 : Ext w1 w5 := hy5 w1 (E4.alloc _) (Nat.le_refl _)
 clear hy5
 have KX5 := K5.cell
 have HO5 := Lib.hid o5
 clear o5 CP4
 go_wp2_with fail
 go_ret
 refine ⟨_, rfl, hE1.trans E5, ?_⟩
 rw [show stateNumbers s = ((([] ++ [s.Index, s.Time]) ++ ((s.Pairs.length : Int) :: flPair s.Pairs)) ++ ((s.Jobs.length : Int) :: flJob s.Jobs)) ++ [s.Lease.Holder, s.Lease.Epoch, s.Lease.Until] by simp [stateNumbers, HBB.out, stateNums]]
 exact OwnI.mono HO5.out oM
end Go.Proofs.YtlnkggpemdpemaaGreat
namespace Go.G8
open Go.RowKit
theorem step_append_own {P : Program} {w : World} {ops : Array Oper} {o : Oper} {a : Act} {K : Act → World → Prop} {Q : Exit → Act → World → Prop} {E : Prop} (hgd : o.guard = none) (s x : Operand) (t : TypeId)
  (ho : o.op = .call { callee := .builtin .append, args := #[s, x], argTypes := #[t, t] })
  (e : TypeId) (i : TypeInfo) (z : Value) (size bytes : Nat) (ht : P.underlying t = some (.slice e)) (hi : P.info? e = some i) (hz : i.zero = some z)
  (hsize : i.size = size) (hby : i.bytes = bytes) (hzs : z.cells.size = size) (hsz : 0 < size)
  (B : Nat) (v : Value) (cs : List Value) (hs : a.eval s = v) (hown : Own B e size w v cs) (ad : Addr) (m c : Nat) (news : List Value) (hx : a.eval x = .slice (some ad) m c) (hl : news.length = m * size) (hnews : ∀ j u, news[j]? = some u → w.cell? (ad.add j) = some u) (h1 : ∀ u ∈ news, u.oneCell' = true) (hm : 0 < m)
  (n : Nat) (hlen : cs.length + news.length ≤ n * size) (hn : n ≤ maxLen) (hbytes : n * bytes ≤ 140737488355328) (hbase : B ≤ w.heap.size)
  (h : ∀ v' w', Own B e size w' v' (cs ++ news) → w.grownBy w' v.ownBlock → K (a.put o.dst v') w') : if Region.wanted o (yielded ops a.tmps) = true then Oper.wp P o a w K Q else E := by
 obtain ⟨len, ho'⟩ := hown
 have hl0 : cs.length = len * size := ho'.1
 have hle : len + m ≤ n := by
  have : (len + m) * size ≤ n * size := by rw [Nat.add_mul]; omega
  exact Nat.le_of_mul_le_mul_right this hsz
 exact step_append_lies w hgd s x t ho B e i z size bytes ht hi hz hsize hby hzs hsz v len cs hs ho' ad m c news hx hl hnews h1 hm (Nat.le_trans hle hn) (Nat.le_trans (Nat.mul_le_mul_right _ hle) hbytes) hbase _ rfl (fun g cap w' h2 h3 _ _ => h _ w' ⟨_, h2⟩ h3)
end Go.G8
namespace Go.Proofs.YtlnkggpemdpemaaGreat
open Go.RowKit Go.G8
theorem sPairsRow_c (w : World) (s : Value) (l : List DPair) (hs : Ints 2 w s (flPair l)) (hok : pairsOk l = true) (hlen : l.length ≤ 100) :
  Calls Tryz.prog 181 #[s] w (Ret w fun r w' => OwnI w.heap.size 2 1 w' r ((l.length : Int) :: flPair l)) := by
 obtain ⟨a, cap, rfl, hcap, hm, ha⟩ := hs.recs (f := DPair.ints) (fun _ => rfl) dC
 have HA := Lib.hid ha; have HOK := Lib.hid hok
 clear ha hok
 unfold maxLen at hm
 obtain ⟨i0, hi, hz0, hz1, hz2⟩ := info_parts info_Int64
 go_enter Tryz.func181, Tryz.ntmps181
 go_wp2_with fail
 refine (sPairsOk_c _ _ _ hs).mono ?_
 rintro e w1 ⟨rfl, hx1⟩
 rw [HOK.out]
 have hown0 : OwnI w.heap.size 2 1 (w1.alloc (.cells #[.int .i64 (l.length : Int)] 2)) (.slice (some ⟨w1.heap.size, 0, none⟩) 1 1) ((l.length : Int) :: flPair (l.take 0)) := by
  refine Own.of_blk (cap := 1) (Blk.new w1 _ _) hx1.size (by simp) (by simp [flPair]) (Nat.le_refl _) dC ?_
  intro j hj
  simp [flPair] at hj ⊢
 go_wp2_with fail
 go_loopw [3, 4] (fun t i wr => ∃ k : Nat, k ≤ l.length ∧ i = .int .i64 k ∧ Ext w wr ∧ OwnI w.heap.size 2 1 wr t ((l.length : Int) :: flPair (l.take k))) (fun _ i _ => l.length - (intOf i).toNat)
 case atStart => exact ⟨0, Nat.zero_le _, rfl, hx1.alloc _, hown0⟩
 case round =>
  obtain ⟨k, hk, rfl, he, hown⟩ := hrel
  obtain ⟨ta, tn, tc, rfl⟩ := hown.shape
  have hsz := he.size
  by_cases hlt : k < l.length
  ·
   obtain ⟨d, b1, q1, hd, rfl, hb1, c⟩ := HA.out k hlt
   have d0 := he.cell (c 0 _ dC rfl)
   have e0 := c 0 _ dC rfl
   have d1 := he.cell (c 1 _ dC rfl)
   have e1 := c 1 _ dC rfl
   (try simp only [Nat.add_zero] at d0 e0)
   have HD := Lib.hid hd
   have HO := Lib.hid hown
   have hlk : (flPair (l.take k)).length = k * 2 := by rw [length_flPair, List.length_take]; congr 1; omega
   clear hd c hown
   go_wp2_with fail
   go_region_held3 (fun w' => w'.cell? ⟨b1, q1 + k * 2, none⟩ = some (.int .i64 d.Key) ∧ w'.cell? ⟨b1, q1 + k * 2 + 1, none⟩ = some (.int .i64 d.Value)) (first | (refine ⟨Ext.cell (w := w) ?_ e0, Ext.cell (w := w) ?_ e1⟩ <;> (exact xT); done)) (first | (refine step_append_own rfl (.tmp 18) (.tmp 29) 49 rfl 2 i0 _ 1 8 Tryz.underlying49 hi hz0 hz1 hz2 rfl dC w.heap.size (.slice ta tn tc) _ rfl (Own.ext HO.out xT) ⟨wr.heap.size, 0, none⟩ 2 2 ([d.Key, d.Value].map (.int .i64)) rfl (by simp) (fun j u hu => by rw [add_lit0, Nat.zero_add, ((Blk.new wr _ _).drew).cell]; simpa using hu) (ints_oneCell _ _) oM 1000 (by simp [hlk]; omega) (by unfold maxLen; omega) oM (by simp; omega) ?_; intro v3 wa hown1 hga; have hxa : Ext w wa := Ext.own (v := .slice ta tn tc) (he.trans xT) (Own.ext HO.out xT) (Nat.le_refl _) hga))
   all_goals
    have hown3 : OwnI w.heap.size 2 1 wa v3 (((l.length : Int) :: flPair (l.take k)) ++ [d.Key, d.Value]) := by simpa [OwnI] using hown1
    go_wp2_with fail
    go_roundw
    case rel => exact ⟨k + 1, by omega, by go_num, hxa, by rw [take_snoc HD.out, flPair_snoc]; simpa using hown3⟩
    case measure => simp [intOf]; omega
  obtain rfl : k = l.length := by omega
  rw [List.take_length] at hown
  go_wp2_with fail
  go_ret
  exact ⟨_, rfl, he, hown⟩
theorem sOrdersRow_c (w : World) (s : Value) (l : List DJob) (hs : Ints 5 w s (flJob l)) (hok : jobsOk l = true) (hlen : l.length ≤ 100) :
  Calls Tryz.prog 182 #[s] w (Ret w fun r w' => OwnI w.heap.size 2 1 w' r ((l.length : Int) :: flJob l)) := by
 obtain ⟨a, cap, rfl, hcap, hm, ha⟩ := hs.recs (f := DJob.ints) (fun _ => rfl) dC
 have HA := Lib.hid ha; have HOK := Lib.hid hok
 clear ha hok
 unfold maxLen at hm
 obtain ⟨i0, hi, hz0, hz1, hz2⟩ := info_parts info_Int64
 go_enter Tryz.func182, Tryz.ntmps182
 go_wp2_with fail
 refine (sJobsOk_c _ _ _ hs).mono ?_
 rintro e w1 ⟨rfl, hx1⟩
 rw [HOK.out]
 have hown0 : OwnI w.heap.size 2 1 (w1.alloc (.cells #[.int .i64 (l.length : Int)] 2)) (.slice (some ⟨w1.heap.size, 0, none⟩) 1 1) ((l.length : Int) :: flJob (l.take 0)) := by
  refine Own.of_blk (cap := 1) (Blk.new w1 _ _) hx1.size (by simp) (by simp [flJob]) (Nat.le_refl _) dC ?_
  intro j hj
  simp [flJob] at hj ⊢
 go_wp2_with fail
 go_loopw [3, 4] (fun t i wr => ∃ k : Nat, k ≤ l.length ∧ i = .int .i64 k ∧ Ext w wr ∧ OwnI w.heap.size 2 1 wr t ((l.length : Int) :: flJob (l.take k))) (fun _ i _ => l.length - (intOf i).toNat)
 case atStart => exact ⟨0, Nat.zero_le _, rfl, hx1.alloc _, hown0⟩
 case round =>
  obtain ⟨k, hk, rfl, he, hown⟩ := hrel
  obtain ⟨ta, tn, tc, rfl⟩ := hown.shape
  have hsz := he.size
  by_cases hlt : k < l.length
  ·
   obtain ⟨d, b1, q1, hd, rfl, hb1, c⟩ := HA.out k hlt
   have d0 := he.cell (c 0 _ dC rfl)
   have e0 := c 0 _ dC rfl
   have d1 := he.cell (c 1 _ dC rfl)
   have e1 := c 1 _ dC rfl
   have d2 := he.cell (c 2 _ dC rfl)
   have e2 := c 2 _ dC rfl
   have d3 := he.cell (c 3 _ dC rfl)
   have e3 := c 3 _ dC rfl
   have d4 := he.cell (c 4 _ dC rfl)
   have e4 := c 4 _ dC rfl
   (try simp only [Nat.add_zero] at d0 e0)
   have HD := Lib.hid hd
   have HO := Lib.hid hown
   have hlk : (flJob (l.take k)).length = k * 5 := by rw [length_flJob, List.length_take]; congr 1; omega
   clear hd c hown
   go_wp2_with fail
   go_region_held3 (fun w' => w'.cell? ⟨b1, q1 + k * 5, none⟩ = some (.int .i64 d.Id) ∧ w'.cell? ⟨b1, q1 + k * 5 + 1, none⟩ = some (.int .i64 d.Due) ∧ w'.cell? ⟨b1, q1 + k * 5 + 2, none⟩ = some (.int .i64 d.Key) ∧ w'.cell? ⟨b1, q1 + k * 5 + 3, none⟩ = some (.int .i64 d.Value) ∧ w'.cell? ⟨b1, q1 + k * 5 + 4, none⟩ = some (.int .i64 d.Fired)) (first | (refine ⟨Ext.cell (w := w) ?_ e0, Ext.cell (w := w) ?_ e1, Ext.cell (w := w) ?_ e2, Ext.cell (w := w) ?_ e3, Ext.cell (w := w) ?_ e4⟩ <;> (exact xT); done)) (first | (refine step_append_own rfl (.tmp 18) (.tmp 44) 49 rfl 2 i0 _ 1 8 Tryz.underlying49 hi hz0 hz1 hz2 rfl dC w.heap.size (.slice ta tn tc) _ rfl (Own.ext HO.out xT) ⟨wr.heap.size, 0, none⟩ 5 5 ([d.Id, d.Due, d.Key, d.Value, d.Fired].map (.int .i64)) rfl (by simp) (fun j u hu => by rw [add_lit0, Nat.zero_add, ((Blk.new wr _ _).drew).cell]; simpa using hu) (ints_oneCell _ _) oM 1000 (by simp [hlk]; omega) (by unfold maxLen; omega) oM (by simp; omega) ?_; intro v3 wa hown1 hga; have hxa : Ext w wa := Ext.own (v := .slice ta tn tc) (he.trans xT) (Own.ext HO.out xT) (Nat.le_refl _) hga))
   all_goals
    have hown3 : OwnI w.heap.size 2 1 wa v3 (((l.length : Int) :: flJob (l.take k)) ++ [d.Id, d.Due, d.Key, d.Value, d.Fired]) := by simpa [OwnI] using hown1
    go_wp2_with fail
    go_roundw
    case rel => exact ⟨k + 1, by omega, by go_num, hxa, by rw [take_snoc HD.out, flJob_snoc]; simpa using hown3⟩
    case measure => simp [intOf]; omega
  obtain rfl : k = l.length := by omega
  rw [List.take_length] at hown
  go_wp2_with fail
  go_ret
  exact ⟨_, rfl, he, hown⟩
end Go.Proofs.YtlnkggpemdpemaaGreat
