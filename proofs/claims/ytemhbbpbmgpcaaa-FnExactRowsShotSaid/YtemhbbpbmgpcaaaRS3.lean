/- Snapshots read off their rows: the reference. -/
import Derived.Test.YtemhbbpbmgpcaaaRS2
import Derived.Test.YtemhbbpbmgpcaaaNS3
set_option linter.unusedSimpArgs false
set_option linter.unusedVariables false
namespace Go.Proofs.Ytemhbbpbmgpcaaa
open Go.RowKit Go.G8

end Go.Proofs.Ytemhbbpbmgpcaaa
namespace Go.G8
open Go.RowKit Go.Proofs.Ytemhbbpbmgpcaaa
theorem shot_ends {s : DShot} (h : shotOk s = true) : (shotRows s).all endsOk = true := by
  rw [List.all_eq_true]
  intro r hr
  obtain ⟨i, hi⟩ := List.mem_iff_getElem?.1 hr
  have h1 := shotRows_ends h hi
  have h2 := (List.all_eq_true.1 (shotRows_parse h).1) r hr
  simp only [partOk, Bool.and_eq_true] at h2
  simp only [endsOk, Bool.and_eq_true, decide_eq_true_eq]
  exact ⟨h2.1, h1⟩
theorem ends_part {r : List Int} (h : endsOk r = true) : partOk r = true := by
  simp only [endsOk, Bool.and_eq_true, decide_eq_true_eq] at h
  simp only [partOk, Bool.and_eq_true, decide_eq_true_eq]
  exact ⟨h.1, by omega⟩
theorem ends_parts {l : List (List Int)} (h : l.all endsOk = true) : l.all partOk = true := by
  rw [List.all_eq_true] at h ⊢
  exact fun r hr => ends_part (h r hr)
end Go.G8
namespace Go.Proofs.Ytemhbbpbmgpcaaa
open Go.RowKit Go.G8
set_option maxHeartbeats 8000000 in
set_option maxRecDepth 100000 in
theorem sRowsShot_k {w : World} {v : Value} {l : List (List Int)} (h : RdRows w v l) (hr : l.length ≤ 2000000) : Calls Try.prog 15 #[v] w (Ret w fun r w' => (∃ s, shotOk s = true ∧ shotRows s = l ∧ ∃ u, r = .tuple #[u, .bool true] ∧ IsShot w.heap.size w' u s) ∨ ((∀ s, shotOk s = true → shotRows s ≠ l) ∧ r = .tuple #[.agg #[.int .i64 0, .int .i64 0, .int .i64 0, .slice none 0 0, .slice none 0 0, .int .i64 0, .int .i64 0, .int .i64 0], .bool false])) := by
  obtain ⟨a, cap, rfl, hcap, hm, ha⟩ := Nest.rows h
  have HA := Lib.hid ha
  unfold maxLen at hm
  clear ha h
  obtain ⟨i0, hi, hz0, hz1, hz2⟩ := info_parts info_Int64
  obtain ⟨W1, hW1⟩ : ∃ W1, W1 = w.alloc (.cells #[.int .i64 0, .int .i64 0, .int .i64 0, .slice none 0 0, .slice none 0 0, .int .i64 0, .int .i64 0, .int .i64 0] 39) := ⟨_, rfl⟩
  have E1 : Ext w W1 := by rw [hW1]; exact (Ext.refl _).alloc _
  have R1 : Blk W1 w.heap.size 39 #[.int .i64 0, .int .i64 0, .int .i64 0, .slice none 0 0, .slice none 0 0, .int .i64 0, .int .i64 0, .int .i64 0] := by rw [hW1]; exact Blk.new _ _ _
  have E0 : Ext w (w.alloc (.cells #[.int .i64 0, .int .i64 0, .int .i64 0, .slice none 0 0, .slice none 0 0, .int .i64 0, .int .i64 0, .int .i64 0] 39)) := (Ext.refl _).alloc _
  have KR0 : Blk (w.alloc (.cells #[.int .i64 0, .int .i64 0, .int .i64 0, .slice none 0 0, .slice none 0 0, .int .i64 0, .int .i64 0, .int .i64 0] 39)) w.heap.size 39 #[.int .i64 0, .int .i64 0, .int .i64 0, .slice none 0 0, .slice none 0 0, .int .i64 0, .int .i64 0, .int .i64 0] := Blk.new _ _ _
  have hs1 : W1.heap.size = w.heap.size + 1 := by rw [hW1]; simp
  have HW1 := Lib.hid hW1
  clear hW1
  by_cases hl0 : (l.length : Int) < 1
  · have HL0 := Lib.hid hl0
    go_enter Try.func15, Try.ntmps15
    have CR0 := KR0.cell; have FR0 := KR0.frozen; have LR0 := KR0.lt
    go_wp2_with fail
    refine bodyPost_ret (by simp [results, Try.results15, go_sem, CR0, FR0, LR0]; try rfl) rfl ?_
    refine ⟨_, rfl, ?_, .inr ⟨fun s hs e => ?_, rfl⟩⟩
    · (repeat (refine Ext.setCell ?_ (Nat.le_refl _) _)); exact E0
    · have h1 := (shotRows_len hs).2.1; rw [e] at h1; have := HL0.out; omega
  by_cases hl4 : (4 : Int) < (l.length : Int)
  · have HL4 := Lib.hid hl4
    go_enter Try.func15, Try.ntmps15
    have CR0 := KR0.cell; have FR0 := KR0.frozen; have LR0 := KR0.lt
    go_wp2_with fail
    refine bodyPost_ret (by simp [results, Try.results15, go_sem, CR0, FR0, LR0]; try rfl) rfl ?_
    refine ⟨_, rfl, ?_, .inr ⟨fun s hs e => ?_, rfl⟩⟩
    · (repeat (refine Ext.setCell ?_ (Nat.le_refl _) _)); exact E0
    · have h1 := (shotRows_len hs).2.2; rw [e] at h1; have := HL4.out; omega
  have hlp : 0 < l.length := by omega
  have hl4n : l.length ≤ 4 := by omega
  clear KR0 E0
  go_enter Try.func15, Try.ntmps15
  go_wp2_with fail
  rw [← HW1.out]
  go_loopw [4, 5] (fun all i wr => ∃ k : Nat, k ≤ l.length ∧ i = .int .i64 k ∧ Ext W1 wr ∧ OwnI W1.heap.size 2 1 wr all ((l.take k).flatMap mid) ∧ Hid ((l.take k).all endsOk = true)) (fun _ i _ => l.length - (intOf i).toNat)
  case atStart => exact ⟨0, Nat.zero_le _, rfl, (Ext.refl _).alloc _, by show OwnI W1.heap.size 2 1 _ _ []; rw [← hs1]; exact Own.fresh W1 2 1, Lib.hid (by simp)⟩
  case round =>
    obtain ⟨k, hk, rfl, he, hown, hall⟩ := hrel
    obtain ⟨w2, hw2⟩ : ∃ w2, w2 = wr := ⟨_, rfl⟩
    subst hw2
    obtain ⟨la, ln, lc, rfl⟩ := hown.shape
    have hsz := he.size
    have E2 : Ext w w2 := E1.trans he
    have KR2 := R1.ext he
    by_cases hlt : k < l.length
    · obtain ⟨r, b1, o1, sa, sn, sc, hr1, rfl, hb1, c0, hin⟩ := HA.out k hlt
      have d0 := E2.cell c0
      have HR := Lib.hid hr1; have HO := Lib.hid hown; have HIN := Lib.hid (hin.ext E2)
      have hml := mids_len (l.take k) (ends_parts hall.out)
      have hkl : (l.take k).length = k := by simp; omega
      rw [hkl] at hml
      have HML := Lib.hid hml
      clear hr1 c0 hown hin hml hkl
      go_wp2_with fail
      refine (l18Part_c _ _ r HIN.out).mono ?_
      rintro e w4 ⟨_, rfl, hx4, pa, pn, pc, rfl, ho⟩
      have KR4 := KR2.ext hx4
      cases hu : endsOk r
      · have HU := Lib.hid hu
        clear ho hu
        have CR4 := KR4.cell; have FR4 := KR4.frozen; have LR4 := KR4.lt
        go_wp2_with fail
        refine bodyPost_ret (by simp [results, Try.results15, go_sem, CR4, FR4, LR4]; try rfl) rfl ?_
        refine ⟨_, rfl, ?_, .inr ⟨fun s hs e => ?_, rfl⟩⟩
        · (repeat (refine Ext.setCell ?_ (Nat.le_refl _) _)); exact E2.trans hx4
        · have h1 := shot_ends hs; rw [e, all_noJ HR.out HU.out] at h1; exact Bool.noConfusion h1
      have ho := ho hu
      have HU := Lib.hid hu; have HS := Lib.hid ho
      have hml2 := mid_len r
      have hr48 : r.length ≤ 48 := by
        have h1 := ends_part hu
        simp only [partOk, Bool.and_eq_true] at h1
        exact (unsumOk_len h1.1).2
      have hl9 : ((l.take k).flatMap mid).length + (mid r).length ≤ 1000 := by have := HML.out; omega
      have HL9 := Lib.hid hl9
      clear hu ho hl9 hml2
      go_wp2_with (first | (at_builtin; refine wp_append rfl (.tmp 40) (.tmp 41) 52 rfl 2 i0 _ 1 8 Try.underlying52 hi hz0 hz1 hz2 rfl (by decide) W1.heap.size _ _ rfl (Own.ext HO.out hx4) _ ((mid r).map (.int .i64)) rfl HS.out (ints_oneCell _ _) 1000000000 (by rw [List.length_map, List.length_map]; have := HL9.out; omega) (by unfold maxLen; omega) (by omega) (by have := hx4.size; omega) W1 (he.trans hx4) (Nat.le_refl _) ?_; rotate_right; intro v5 w5 O5 X5 _))
      go_roundw
      case rel => exact ⟨k + 1, by omega, by go_num, X5, by rw [take_snoc HR.out, List.flatMap_append]; simpa [OwnI] using O5, Lib.hid (all_stepJ HR.out hall.out HU.out)⟩
      case measure => simp [intOf]; omega
    · obtain rfl : k = l.length := by omega
      have hal := hall.out
      rw [List.take_length] at hal hown
      have HAL := Lib.hid hal
      have hnl := mids_len l (ends_parts hal)
      have hnl2 : (l.flatMap mid).length ≤ 100000 := by omega
      obtain ⟨r0, b0, q0, sa, sn, sc, hr0, rfl, hb0, c0, hin⟩ := HA.out 0 hlp
      simp only [Nat.add_zero] at c0
      have hr7 : 7 ≤ r0.length := by
        have h1 := ends_part ((List.all_eq_true.1 hal) r0 (List.mem_of_getElem? hr0))
        simp only [partOk, Bool.and_eq_true, decide_eq_true_eq] at h1
        exact h1.2
      obtain ⟨_, _, e9, hc9, hm9, hat⟩ := hin.one
      injection e9 with e1 e2 e3; subst e1; subst e3
      obtain ⟨x, sb, so, hx0, rfl, _, cx⟩ := hat 0 (by omega)
      simp only [Nat.add_zero] at cx
      have hsn : 0 < sn := by omega
      have HR0 := Lib.hid hr0; have HX0 := Lib.hid hx0
      clear e2 hat hr0 hx0 hr7 hin hc9 hal hnl hall
      go_wp2_with fail
      refine (sNumbersState_c _ _ _ (OwnI.ints hown) hnl2).mono ?_
      rintro e w3 ⟨_, rfl, hx3, hN⟩
      have KR3 := KR2.ext hx3
      have E3 : Ext w w3 := E2.trans hx3
      have hz3 := hx3.size
      rcases hN with ⟨t, ht, u, rfl, t2, t3, rfl, p2, p3⟩ | ⟨hno, rfl⟩
      rotate_left
      · have HNO := Lib.hid hno
        clear hno
        go_wp2_with fail
        obtain ⟨W5, hW5⟩ : ∃ W5, W5 = w3.alloc (.cells #[.int .i64 0, .int .i64 0, .slice none 0 0, .slice none 0 0, .int .i64 0, .int .i64 0, .int .i64 0] 37) := ⟨_, rfl⟩
        rw [← hW5]
        have X5 : Ext w3 W5 := by rw [hW5]; exact (Ext.refl _).alloc _
        have B5 : Blk W5 w3.heap.size 37 #[.int .i64 0, .int .i64 0, .slice none 0 0, .slice none 0 0, .int .i64 0, .int .i64 0, .int .i64 0] := by rw [hW5]; exact Blk.new _ _ _
        have hs5 : W5.heap.size = w3.heap.size + 1 := by rw [hW5]; simp
        clear hW5
        have E5 : Ext w W5 := E3.trans X5
        have KR5 := KR3.ext X5
        have d0 := E5.cell c0; have dx := E5.cell cx
        have m0 : W5.cell? ⟨w3.heap.size, 0, none⟩ = some (.int .i64 0) := B5.cell 0
        have m1 : W5.cell? ⟨w3.heap.size, 1, none⟩ = some (.int .i64 0) := B5.cell 1
        have m2 : W5.cell? ⟨w3.heap.size, 2, none⟩ = some (.slice none 0 0) := B5.cell 2
        have m3 : W5.cell? ⟨w3.heap.size, 3, none⟩ = some (.slice none 0 0) := B5.cell 3
        have m4 : W5.cell? ⟨w3.heap.size, 4, none⟩ = some (.int .i64 0) := B5.cell 4
        have m5 : W5.cell? ⟨w3.heap.size, 5, none⟩ = some (.int .i64 0) := B5.cell 5
        have m6 : W5.cell? ⟨w3.heap.size, 6, none⟩ = some (.int .i64 0) := B5.cell 6
        have LB5 := B5.lt
        have HS5 := Lib.hid hs5
        clear hs5
        go_region_held3 (fun w' => w'.cell? ⟨b0, q0, none⟩ = some (.slice (some ⟨sb, so, none⟩) sn sc) ∧ w'.cell? ⟨sb, so, none⟩ = some (.int .i64 x) ∧ w'.cell? ⟨w3.heap.size, 0, none⟩ = some (.int .i64 0) ∧ w'.cell? ⟨w3.heap.size, 1, none⟩ = some (.int .i64 0) ∧ w'.cell? ⟨w3.heap.size, 2, none⟩ = some (.slice none 0 0) ∧ w'.cell? ⟨w3.heap.size, 3, none⟩ = some (.slice none 0 0) ∧ w'.cell? ⟨w3.heap.size, 4, none⟩ = some (.int .i64 0) ∧ w'.cell? ⟨w3.heap.size, 5, none⟩ = some (.int .i64 0) ∧ w'.cell? ⟨w3.heap.size, 6, none⟩ = some (.int .i64 0)) (first | (refine ⟨Ext.cell (w := W5) ?_ d0, Ext.cell (w := W5) ?_ dx, Ext.cell (w := W5) ?_ m0, Ext.cell (w := W5) ?_ m1, Ext.cell (w := W5) ?_ m2, Ext.cell (w := W5) ?_ m3, Ext.cell (w := W5) ?_ m4, Ext.cell (w := W5) ?_ m5, Ext.cell (w := W5) ?_ m6⟩ <;> (repeat' (first | (with_reducible exact Ext.refl _) | (with_reducible assumption) | (with_reducible refine Ext.drewN ?_ _) | (with_reducible refine Ext.drew ?_) | (with_reducible refine Ext.alloc ?_ _) | (with_reducible refine Ext.setCell ?_ ?_ _) | (with_reducible refine Ext.setRow ?_ ?_ _) | (with_reducible exact Nat.le_refl _) | (with_reducible refine Ext.trans ?_ (by assumption)) | omega)); done)) (fail)
        all_goals
          go_wp2_with fail
          have hrs : ∀ W, Ext w3 W → RdShot W (.agg #[.int .i64 x, .int .i64 0, .int .i64 0, .slice none 0 0, .slice none 0 0, .int .i64 0, .int .i64 0, .int .i64 0]) ⟨x, ⟨0, 0, [], [], ⟨0, 0, 0⟩⟩⟩ := fun W hW => ⟨_, _, rfl, Ints.nil 2 W, Ints.nil 5 W⟩
          refine (sShotRows_k (hrs _ (by repeat' (first | (with_reducible exact Ext.refl _) | (with_reducible assumption) | (with_reducible refine Ext.drewN ?_ _) | (with_reducible refine Ext.drew ?_) | (with_reducible refine Ext.alloc ?_ _) | (with_reducible refine Ext.setCell ?_ ?_ _) | (with_reducible refine Ext.setRow ?_ ?_ _) | (with_reducible exact Nat.le_refl _) | (with_reducible refine Ext.trans ?_ (by assumption)) | omega)))).mono ?_
          rintro e w6 ⟨_, rfl, hx6, FF, g6⟩
          have X6 : Ext W5 w6 := Ext.trans (by repeat' (first | (with_reducible exact Ext.refl _) | (with_reducible assumption) | (with_reducible refine Ext.drewN ?_ _) | (with_reducible refine Ext.drew ?_) | (with_reducible refine Ext.alloc ?_ _) | (with_reducible refine Ext.setCell ?_ ?_ _) | (with_reducible refine Ext.setRow ?_ ?_ _) | (with_reducible exact Nat.le_refl _) | (with_reducible refine Ext.trans ?_ (by assumption)) | omega)) hx6
          have E6 : Ext w w6 := E5.trans X6
          have KR6 := KR5.ext X6
          have hz6 := X6.size
          have hz5 := X5.size
          have hne : w.heap.size ≠ W5.heap.size := by omega
          obtain ⟨ga, gn, gc, rfl⟩ := g6.rd.shape
          have CR6 := KR6.cell; have FR6 := KR6.frozen; have LR6 := KR6.lt
          go_wp2_with fail
          refine bodyPost_ret (by simp [results, Try.results15, go_sem, CR6, FR6, LR6]; try rfl) rfl ?_
          refine ⟨_, rfl, ?_, .inr ⟨fun s hs e => ?_, rfl⟩⟩
          · (repeat (refine Ext.setCell ?_ (Nat.le_refl _) _)); exact E6
          · exact HNO.out s.State ⟨(shotOk_parts hs).2.2.1, by rw [← e, (shotRows_parse hs).2]⟩
      obtain ⟨a2, n2, k2, rfl⟩ := p2.shape
      obtain ⟨a3, n3, k3, rfl⟩ := p3.shape
      have HT := Lib.hid ht
      clear ht
      go_wp2_with fail
      obtain ⟨W5, hW5⟩ : ∃ W5, W5 = w3.alloc (.cells #[.int .i64 t.Index, .int .i64 t.Time, .slice a2 n2 k2, .slice a3 n3 k3, .int .i64 t.Lease.Holder, .int .i64 t.Lease.Epoch, .int .i64 t.Lease.Until] 37) := ⟨_, rfl⟩
      rw [← hW5]
      have X5 : Ext w3 W5 := by rw [hW5]; exact (Ext.refl _).alloc _
      have B5 : Blk W5 w3.heap.size 37 #[.int .i64 t.Index, .int .i64 t.Time, .slice a2 n2 k2, .slice a3 n3 k3, .int .i64 t.Lease.Holder, .int .i64 t.Lease.Epoch, .int .i64 t.Lease.Until] := by rw [hW5]; exact Blk.new _ _ _
      have hs5 : W5.heap.size = w3.heap.size + 1 := by rw [hW5]; simp
      clear hW5
      have E5 : Ext w W5 := E3.trans X5
      have KR5 := KR3.ext X5
      have d0 := E5.cell c0; have dx := E5.cell cx
      have m0 : W5.cell? ⟨w3.heap.size, 0, none⟩ = some (.int .i64 t.Index) := B5.cell 0
      have m1 : W5.cell? ⟨w3.heap.size, 1, none⟩ = some (.int .i64 t.Time) := B5.cell 1
      have m2 : W5.cell? ⟨w3.heap.size, 2, none⟩ = some (.slice a2 n2 k2) := B5.cell 2
      have m3 : W5.cell? ⟨w3.heap.size, 3, none⟩ = some (.slice a3 n3 k3) := B5.cell 3
      have m4 : W5.cell? ⟨w3.heap.size, 4, none⟩ = some (.int .i64 t.Lease.Holder) := B5.cell 4
      have m5 : W5.cell? ⟨w3.heap.size, 5, none⟩ = some (.int .i64 t.Lease.Epoch) := B5.cell 5
      have m6 : W5.cell? ⟨w3.heap.size, 6, none⟩ = some (.int .i64 t.Lease.Until) := B5.cell 6
      have LB5 := B5.lt
      have HS5 := Lib.hid hs5
      clear hs5
      go_region_held3 (fun w' => w'.cell? ⟨b0, q0, none⟩ = some (.slice (some ⟨sb, so, none⟩) sn sc) ∧ w'.cell? ⟨sb, so, none⟩ = some (.int .i64 x) ∧ w'.cell? ⟨w3.heap.size, 0, none⟩ = some (.int .i64 t.Index) ∧ w'.cell? ⟨w3.heap.size, 1, none⟩ = some (.int .i64 t.Time) ∧ w'.cell? ⟨w3.heap.size, 2, none⟩ = some (.slice a2 n2 k2) ∧ w'.cell? ⟨w3.heap.size, 3, none⟩ = some (.slice a3 n3 k3) ∧ w'.cell? ⟨w3.heap.size, 4, none⟩ = some (.int .i64 t.Lease.Holder) ∧ w'.cell? ⟨w3.heap.size, 5, none⟩ = some (.int .i64 t.Lease.Epoch) ∧ w'.cell? ⟨w3.heap.size, 6, none⟩ = some (.int .i64 t.Lease.Until)) (first | (refine ⟨Ext.cell (w := W5) ?_ d0, Ext.cell (w := W5) ?_ dx, Ext.cell (w := W5) ?_ m0, Ext.cell (w := W5) ?_ m1, Ext.cell (w := W5) ?_ m2, Ext.cell (w := W5) ?_ m3, Ext.cell (w := W5) ?_ m4, Ext.cell (w := W5) ?_ m5, Ext.cell (w := W5) ?_ m6⟩ <;> (repeat' (first | (with_reducible exact Ext.refl _) | (with_reducible assumption) | (with_reducible refine Ext.drewN ?_ _) | (with_reducible refine Ext.drew ?_) | (with_reducible refine Ext.alloc ?_ _) | (with_reducible refine Ext.setCell ?_ ?_ _) | (with_reducible refine Ext.setRow ?_ ?_ _) | (with_reducible exact Nat.le_refl _) | (with_reducible refine Ext.trans ?_ (by assumption)) | omega)); done)) (fail)
      all_goals
        go_wp2_with fail
        have hrs : ∀ W, Ext w3 W → RdShot W (.agg #[.int .i64 x, .int .i64 t.Index, .int .i64 t.Time, .slice a2 n2 k2, .slice a3 n3 k3, .int .i64 t.Lease.Holder, .int .i64 t.Lease.Epoch, .int .i64 t.Lease.Until]) ⟨x, t⟩ := fun W hW => ⟨_, _, rfl, (OwnI.ints p2).ext hW, (OwnI.ints p3).ext hW⟩
        refine (sShotRows_k (hrs _ (by repeat' (first | (with_reducible exact Ext.refl _) | (with_reducible assumption) | (with_reducible refine Ext.drewN ?_ _) | (with_reducible refine Ext.drew ?_) | (with_reducible refine Ext.alloc ?_ _) | (with_reducible refine Ext.setCell ?_ ?_ _) | (with_reducible refine Ext.setRow ?_ ?_ _) | (with_reducible exact Nat.le_refl _) | (with_reducible refine Ext.trans ?_ (by assumption)) | omega)))).mono ?_
        rintro e w6 ⟨_, rfl, hx6, FF, g6⟩
        have X6 : Ext W5 w6 := Ext.trans (by repeat' (first | (with_reducible exact Ext.refl _) | (with_reducible assumption) | (with_reducible refine Ext.drewN ?_ _) | (with_reducible refine Ext.drew ?_) | (with_reducible refine Ext.alloc ?_ _) | (with_reducible refine Ext.setCell ?_ ?_ _) | (with_reducible refine Ext.setRow ?_ ?_ _) | (with_reducible exact Nat.le_refl _) | (with_reducible refine Ext.trans ?_ (by assumption)) | omega)) hx6
        have E6 : Ext w w6 := E5.trans X6
        have KR6 := KR5.ext X6
        have hz6 := X6.size
        have hz5 := X5.size
        have hne : w.heap.size ≠ W5.heap.size := by omega
        have B6 : Blk w6 W5.heap.size 39 _ := Blk.ext (by repeat' (first | (with_reducible assumption) | (with_reducible exact Blk.new _ _ _) | (with_reducible exact Blk.new2 _ _ _ _) | (with_reducible exact Blk.new3 _ _ _ _ _) | (with_reducible apply Blk.drew) | (with_reducible apply Blk.drewN) | (with_reducible apply Blk.alloc) | (with_reducible apply Blk.set_) | (with_reducible apply Blk.row) | (with_reducible apply Blk.far) | (with_reducible apply Blk.rowFar) | omega | (simp; omega))) hx6
        (try simp only [List.setIfInBounds_toArray, List.set_cons_zero, List.set_cons_succ] at B6)
        clear d0 dx m0 m1 m2 m3 m4 m5 m6 hrs
        have P2 : OwnI W1.heap.size 106 2 w6 (.slice a2 n2 k2) (flPair t.Pairs) := OwnI.mono (OwnI.ext p2 (X5.trans X6)) (by omega)
        have P3 : OwnI W1.heap.size 104 5 w6 (.slice a3 n3 k3) (flJob t.Jobs) := OwnI.mono (OwnI.ext p3 (X5.trans X6)) (by omega)
        obtain ⟨S, hS⟩ : ∃ S : DShot, S = ⟨x, t⟩ := ⟨_, rfl⟩
        rw [← hS] at g6
        have HS := Lib.hid hS
        clear hS
        obtain ⟨ga, gc, rfl, hgc, hgm, hga⟩ := Nest.rows g6.rd
        unfold maxLen at hgm
        have HG := Lib.hid hga
        clear hga
        by_cases hlen : (shotRows S).length = l.length
        rotate_left
        · have hlb : (((shotRows S).length : Int) != ((l.length : Nat) : Int)) = true := by simp; omega
          have hlb2 : (((shotRows S).length : Int) == ((l.length : Nat) : Int)) = false := by simp; omega
          have HLEN := Lib.hid hlen
          have CR6 := KR6.cell; have FR6 := KR6.frozen; have LR6 := KR6.lt
          go_wp2_with fail
          refine bodyPost_ret (by simp [results, Try.results15, go_sem, CR6, FR6, LR6]; try rfl) rfl ?_
          refine ⟨_, rfl, ?_, .inr ⟨fun s hs e => ?_, rfl⟩⟩
          · (repeat (refine Ext.setCell ?_ (Nat.le_refl _) _)); exact E6
          · have h9 := shot_uniq HR0.out HX0.out HT.out hs e; rw [← HS.out] at h9; subst h9; exact HLEN.out (by rw [e])
        have HLEN := Lib.hid hlen
        rw [hlen] at HG hgc ⊢
        clear hlen
        have CB6 := B6.cell; have LB6 := B6.lt
        have CR6 := KR6.cell; have FR6 := KR6.frozen; have LR6 := KR6.lt
        go_wp2_with fail
        go_loopw [12] (fun i wr => ∃ k : Nat, k ≤ l.length ∧ i = .int .i64 k ∧ Ext w6 wr ∧ Hid ((shotRows S).take k = l.take k)) (fun i _ => l.length - (intOf i).toNat)
        case atStart => exact ⟨0, Nat.zero_le _, rfl, Ext.refl _, Lib.hid (by simp)⟩
        case round =>
          obtain ⟨k, hk, rfl, he9, heq⟩ := hrel
          have KR7 := KR6.ext he9
          have B7 := B6.ext he9
          have CB7 := B7.cell; have LB7 := B7.lt
          have CR7 := KR7.cell; have FR7 := KR7.frozen; have LR7 := KR7.lt
          by_cases hlt : k < l.length
          · obtain ⟨ra, b1, o1, xa, xn, xc, hra, rfl, _, ca, ia⟩ := HG.out k hlt
            obtain ⟨rb, b2, o2', ya, yn, yc, hrb, r9, _, cb, ib⟩ := HA.out k hlt
            injection r9 with r9; injection r9 with r91 r92; subst r91; subst r92
            have da := he9.cell ca
            have db := (E6.trans he9).cell cb
            have HRA := Lib.hid hra; have HRB := Lib.hid hrb
            have ia' := Lib.hid (ia.ext he9); have ib' := Lib.hid (ib.ext (E6.trans he9))
            clear hra hrb ca cb ia ib CB6 CR6 FR6
            by_cases hab : ra = rb
            · have hab' : decide (ra = rb) = true := by simp [hab]
              have HAB := Lib.hid hab
              clear hab
              go_wp2_with fail
              refine wp_region_ext (by kernel_rfl) (by kernel_rfl) ?_
              repeat (first | go_big_quiet_skip | (go_big_quiet_want; first | (refine quiet_load _ _ _ ?_ rfl rfl (fun wq hq => ?_) ?_; rotate_left; (focus (have z0 := hq.cell da; have z1 := hq.cell db; go_simp; first | done | rfl)); (try simp only [Act.put, List.setIfInBounds_toArray, List.set_cons_zero, List.set_cons_succ]); go_big_quiet_on) | (go_big_quiet_op; first | go_big_quiet_on | (refine ⟨_, fun _ _ => rfl, ?_⟩; go_big_quiet_on) | (apply Exists.intro; refine ⟨fun wq hq => ?_, ?_⟩; (focus (exact call_ext hq (by have c := sSameRow_c wq _ _ ra rb (ia'.out.ext hq) (ib'.out.ext hq); rw [hab'] at c; exact c))); go_big_quiet_on))))
              refine wpQuiet_nil ?_
              intro w7 hx7
              go_wp2_with fail
              go_roundw
              case rel => exact ⟨k + 1, by omega, by go_num, he9.trans hx7, Lib.hid (by rw [take_snoc HRA.out, take_snoc HRB.out, heq.out, HAB.out])⟩
              case measure => simp [intOf]; omega
            · have hab' : decide (ra = rb) = false := by simp [hab]
              have HAB := Lib.hid hab
              clear hab CB7
              go_wp2_with fail
              refine wp_region_ext (by kernel_rfl) (by kernel_rfl) ?_
              repeat (first | go_big_quiet_skip | (go_big_quiet_want; first | (refine quiet_load _ _ _ ?_ rfl rfl (fun wq hq => ?_) ?_; rotate_left; (focus (have z0 := hq.cell da; have z1 := hq.cell db; go_simp; first | done | rfl)); (try simp only [Act.put, List.setIfInBounds_toArray, List.set_cons_zero, List.set_cons_succ]); go_big_quiet_on) | (go_big_quiet_op; first | go_big_quiet_on | (refine ⟨_, fun _ _ => rfl, ?_⟩; go_big_quiet_on) | (apply Exists.intro; refine ⟨fun wq hq => ?_, ?_⟩; (focus (exact call_ext hq (by have c := sSameRow_c wq _ _ ra rb (ia'.out.ext hq) (ib'.out.ext hq); rw [hab'] at c; exact c))); go_big_quiet_on))))
              refine wpQuiet_nil ?_
              intro w7 hx7
              have KR8 := KR7.ext hx7
              clear CR7 FR7
              have CR8 := KR8.cell; have FR8 := KR8.frozen; have LR8 := KR8.lt
              go_wp2_with fail
              refine bodyPost_ret (by simp [results, Try.results15, go_sem, CR8, FR8, LR8]; try rfl) rfl ?_
              refine ⟨_, rfl, ?_, .inr ⟨fun s hs e => ?_, rfl⟩⟩
              · (repeat (refine Ext.setCell ?_ (Nat.le_refl _) _)); exact (E6.trans he9).trans hx7
              · have h9 := shot_uniq HR0.out HX0.out HT.out hs e; rw [← HS.out] at h9; subst h9; have h8 := HRA.out; rw [e, HRB.out] at h8; exact HAB.out (Option.some.inj h8).symm
          · obtain rfl : k = l.length := by omega
            have hfin : shotRows S = l := by
              have h9 := heq.out
              rw [List.take_length, List.take_of_length_le (by rw [HLEN.out]; exact Nat.le_refl _)] at h9
              exact h9
            have HF := Lib.hid hfin
            clear hfin CB6 CR6 FR6
            go_wp2_with fail
            refine bodyPost_ret (by simp [results, Try.results15, go_sem, CR7, FR7, LR7, CB7, LB7]; try rfl) rfl ?_
            refine ⟨_, rfl, ?_, .inl ⟨S, shotRows_ne (by rw [HF.out]; exact hlp), HF.out, _, rfl, ?_⟩⟩
            · (repeat (refine Ext.setCell ?_ (Nat.le_refl _) _)); exact E6.trans he9
            · rw [HS.out]
              exact ⟨_, _, rfl, OwnI.mono (OwnI.keep (OwnI.ext P2 he9) (by repeat' (first | (with_reducible exact Chg.refl _ _) | (with_reducible refine Chg.drewN ?_ _) | (with_reducible refine Chg.drew ?_) | (with_reducible refine Chg.alloc ?_ _) | (with_reducible refine Chg.setLow ?_ (by omega) _) | (with_reducible refine Chg.setNew ?_ (by omega) _) | (with_reducible refine Chg.setRow ?_ (by omega) _) | (with_reducible refine Chg.ext ?_ (by assumption)) | omega))) (by omega), OwnI.mono (OwnI.keep (OwnI.ext P3 he9) (by repeat' (first | (with_reducible exact Chg.refl _ _) | (with_reducible refine Chg.drewN ?_ _) | (with_reducible refine Chg.drew ?_) | (with_reducible refine Chg.alloc ?_ _) | (with_reducible refine Chg.setLow ?_ (by omega) _) | (with_reducible refine Chg.setNew ?_ (by omega) _) | (with_reducible refine Chg.setRow ?_ (by omega) _) | (with_reducible refine Chg.ext ?_ (by assumption)) | omega))) (by omega)⟩

end Go.Proofs.Ytemhbbpbmgpcaaa
