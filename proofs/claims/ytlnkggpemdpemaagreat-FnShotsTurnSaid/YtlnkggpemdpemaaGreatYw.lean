/- Contracts and plain laws: S2 S3. -/
import Derived.Test.YtlnkggpemdpemaaGreatYa
import Derived.Test.YtlnkggpemdpemaaGreatYb
set_option linter.unusedSimpArgs false
set_option linter.unusedVariables false
set_option maxHeartbeats 8000000
set_option maxRecDepth 100000
namespace Go.Proofs.YtlnkggpemdpemaaGreat
open Go.RowKit Go.G8
theorem sDiskOk_c (w : World) (s0_0 : Value) (l0_0 : List (List Int)) (s0_1 : Value) (l0_1 : List DWrite) (h0_0 : Nest 0 w s0_0 (nestInt64S l0_0)) (h0_1 : Nest 1 w s0_1 (nestWrite l0_1)) :
  Calls Tryz.prog 60 #[.agg #[s0_0, s0_1]] w (RetV w (.bool (diskOk (⟨l0_0, l0_1⟩ : DDisk)))) := by
 obtain ⟨a0, cap0, rfl, hc0, hm0, ha0⟩ := Nest.rows h0_0
 obtain ⟨a1, cap1, rfl, hc1, hm1, ha1⟩ := Nest.writes h0_1
 have HA := Lib.hid ha0; have HB := Lib.hid ha1
 clear ha0 ha1
 unfold maxLen at hm0 hm1
 by_cases hz : 1 ≤ l0_0.length ∧ l0_0.length ≤ 40 ∧ l0_1.length ≤ 60
 ·
  have HZ := Lib.hid hz
  obtain ⟨hz1, hz2, hz3⟩ := hz
  obtain ⟨W0, hW0⟩ : ∃ W0, W0 = w.alloc (.cells #[.slice a0 l0_0.length cap0, .slice a1 l0_1.length cap1] 33) := ⟨_, rfl⟩
  have hEw : Ext w W0 := by rw [hW0]; exact (Ext.refl _).alloc _
  have I0 : W0.cell? ⟨w.heap.size, 0, none⟩ = some (.slice a0 l0_0.length cap0) := by rw [hW0]; simp
  have I1 : W0.cell? ⟨w.heap.size, 1, none⟩ = some (.slice a1 l0_1.length cap1) := by rw [hW0]; simp
  go_enter Tryz.func60, Tryz.ntmps60
  go_wp2
  rw [← hW0]
  clear hW0
  go_loopw [3] (fun i wr => ∃ k : Nat, k ≤ l0_0.length ∧ i = .int .i64 k ∧ Ext W0 wr ∧ Hid ((l0_0.take k).all rowOk = true)) (fun i _ => l0_0.length - (intOf i).toNat)
  case atStart => exact ⟨0, Nat.zero_le _, rfl, Ext.refl _, Lib.hid (by simp)⟩
  case round =>
   obtain ⟨k, hk, rfl, he, hp⟩ := hrel
   have hEr := hEw.trans he
   have J0 := he.cell I0; have J1 := he.cell I1
   by_cases hlt : k < l0_0.length
   ·
    obtain ⟨r, b1, o1, sa, sn, sc, hr, rfl, _, cc, hin0⟩ := HA.out k hlt
    have d0 := hEr.cell cc
    have hin := hin0.ext hEr
    have HR := Lib.hid hr
    clear hr cc hin0
    cases hb : rowOk r
    ·
     go_wp2_with (first | (go_at_call 89; refine (sRowOk_c _ _ _ (hin.ext xT)).mono ?_; rintro e w1 ⟨rfl, hx1⟩))
     go_ret
     exact ⟨by rw [diskOk, all_no (p := rowOk) (l := l0_0) HR.out hb]; simp, xT⟩
    go_wp2_with (first | (go_at_call 89; refine (sRowOk_c _ _ _ (hin.ext xT)).mono ?_; rintro e w1 ⟨rfl, hx1⟩))
    go_roundw
    case rel => exact ⟨k + 1, by omega, by go_num, he.trans hx1, Lib.hid (all_step HR.out hp.out hb)⟩
    case measure => simp [intOf]; omega
   obtain rfl : k = l0_0.length := by omega
   have hp' := hp.out
   rw [List.take_length] at hp'
   have HP := Lib.hid hp'
   clear hp hp'
   go_wp2
   go_loopw [4] (fun i wr => ∃ k : Nat, k ≤ l0_1.length ∧ i = .int .i64 k ∧ Ext W0 wr ∧ Hid ((l0_1.take k).all (writeOk l0_0.length) = true)) (fun i _ => l0_1.length - (intOf i).toNat)
   case atStart => exact ⟨0, Nat.zero_le _, rfl, he, Lib.hid (by simp)⟩
   case round =>
    clear he hEr J0 J1
    obtain ⟨k, hk, rfl, he, hp⟩ := hrel
    have hEr := hEw.trans he
    have J0 := he.cell I0; have J1 := he.cell I1
    by_cases hlt : k < l0_1.length
    ·
     obtain ⟨d, b1, o1, sa, sn, sc, hd, rfl, _, cc0, cc1, hin0⟩ := HB.out k hlt
     have d0 := hEr.cell cc0; have d1 := hEr.cell cc1
     have hin := hin0.ext hEr
     have hbl : w.heap.size < wr.heap.size := World.block_lt_of_cell? _ _ J0
     have hbm : b1 < wr.heap.size := World.block_lt_of_cell? _ _ d0
     have HD := Lib.hid hd
     clear hd cc0 cc1 hin0
     cases ha : inb d.At 0 (l0_0.length - 1)
     ·
      go_wp2_with fail
      refine wp_region_ext (by kernel_rfl) (by kernel_rfl) ?_
      repeat (first | go_big_quiet_skip | (go_big_quiet_want; first | (refine quiet_load _ _ _ ?_ rfl rfl (fun wq hq => ?_) ?_; rotate_left; (focus ((try have y0 := hq.cell J0); (try have y1 := hq.cell J1); (try have y2 := hq.cell d0); (try have y3 := hq.cell d1); go_simp; first | done | rfl)); (try simp only [redA, Act.put]); go_big_quiet_on) | (go_big_quiet_op; first | go_big_quiet_on | (refine ⟨_, fun _ _ => rfl, ?_⟩; go_big_quiet_on) | (apply Exists.intro; refine ⟨fun wq hq => ?_, ?_⟩; (focus (first | (go_at_call 90; exact call_ext hq (l3Has_c _ _ _ _ _ _ (h0_0.ext (hEr.trans hq)) (h0_1.ext (hEr.trans hq)))) | (go_at_call 89; exact call_ext hq (sRowOk_c _ _ _ (hin.ext hq))))); go_big_quiet_on))))
      refine wpQuiet_nil ?_
      intro w1 hx1
      go_wp2
      go_ret
      exact ⟨by rw [diskOk, all_no (p := writeOk l0_0.length) (l := l0_1) HD.out (by simp [writeOk, ha])]; simp, xT⟩
     cases hb : rowOk d.Row
     ·
      go_wp2_with fail
      refine wp_region_ext (by kernel_rfl) (by kernel_rfl) ?_
      repeat (first | go_big_quiet_skip | (go_big_quiet_want; first | (refine quiet_load _ _ _ ?_ rfl rfl (fun wq hq => ?_) ?_; rotate_left; (focus ((try have y0 := hq.cell J0); (try have y1 := hq.cell J1); (try have y2 := hq.cell d0); (try have y3 := hq.cell d1); go_simp; first | done | rfl)); (try simp only [redA, Act.put]); go_big_quiet_on) | (go_big_quiet_op; first | go_big_quiet_on | (refine ⟨_, fun _ _ => rfl, ?_⟩; go_big_quiet_on) | (apply Exists.intro; refine ⟨fun wq hq => ?_, ?_⟩; (focus (first | (go_at_call 90; exact call_ext hq (l3Has_c _ _ _ _ _ _ (h0_0.ext (hEr.trans hq)) (h0_1.ext (hEr.trans hq)))) | (go_at_call 89; exact call_ext hq (sRowOk_c _ _ _ (hin.ext hq))))); go_big_quiet_on))))
      refine wpQuiet_nil ?_
      intro w1 hx1
      go_wp2
      go_ret
      exact ⟨by rw [diskOk, all_no (p := writeOk l0_0.length) (l := l0_1) HD.out (by simp [writeOk, hb])]; simp, xT⟩
     go_wp2_with fail
     refine wp_region_ext (by kernel_rfl) (by kernel_rfl) ?_
     repeat (first | go_big_quiet_skip | (go_big_quiet_want; first | (refine quiet_load _ _ _ ?_ rfl rfl (fun wq hq => ?_) ?_; rotate_left; (focus ((try have y0 := hq.cell J0); (try have y1 := hq.cell J1); (try have y2 := hq.cell d0); (try have y3 := hq.cell d1); go_simp; first | done | rfl)); (try simp only [redA, Act.put]); go_big_quiet_on) | (go_big_quiet_op; first | go_big_quiet_on | (refine ⟨_, fun _ _ => rfl, ?_⟩; go_big_quiet_on) | (apply Exists.intro; refine ⟨fun wq hq => ?_, ?_⟩; (focus (first | (go_at_call 90; exact call_ext hq (l3Has_c _ _ _ _ _ _ (h0_0.ext (hEr.trans hq)) (h0_1.ext (hEr.trans hq)))) | (go_at_call 89; exact call_ext hq (sRowOk_c _ _ _ (hin.ext hq))))); go_big_quiet_on))))
     refine wpQuiet_nil ?_
     intro w1 hx1
     go_wp2
     go_roundw
     case rel => exact ⟨k + 1, by omega, by go_num, xT, Lib.hid (all_step HD.out hp.out (by simp [writeOk, ha, hb]))⟩
     case measure => simp [intOf]; omega
    obtain rfl : k = l0_1.length := by omega
    have hp' := hp.out
    rw [List.take_length] at hp'
    go_wp2
    go_ret
    have hz' := HZ.out
    exact ⟨by rw [diskOk, HP.out, hp']; simp [hz'], xT⟩
 go_enter Tryz.func60, Tryz.ntmps60
 go_wp2
 all_goals
  go_ret
  exact ⟨by rw [diskOk]; simp; omega, xT⟩
theorem diskOk_c (w : World) (s0_0 : Value) (l0_0 : List (List Int)) (s0_1 : Value) (l0_1 : List DWrite) (h0_0 : Nest 0 w s0_0 (nestInt64S l0_0)) (h0_1 : Nest 1 w s0_1 (nestWrite l0_1)) :
  Calls Tryz.prog 64 #[.agg #[s0_0, s0_1]] w (RetV w (.bool (diskOk (⟨l0_0, l0_1⟩ : DDisk)))) := by
 obtain ⟨a0, cap0, rfl, hc0, hm0, ha0⟩ := Nest.rows h0_0
 obtain ⟨a1, cap1, rfl, hc1, hm1, ha1⟩ := Nest.writes h0_1
 have HA := Lib.hid ha0; have HB := Lib.hid ha1
 clear ha0 ha1
 unfold maxLen at hm0 hm1
 by_cases hz : 1 ≤ l0_0.length ∧ l0_0.length ≤ 40 ∧ l0_1.length ≤ 60
 ·
  have HZ := Lib.hid hz
  obtain ⟨hz1, hz2, hz3⟩ := hz
  obtain ⟨W0, hW0⟩ : ∃ W0, W0 = w.alloc (.cells #[.slice a0 l0_0.length cap0, .slice a1 l0_1.length cap1] 33) := ⟨_, rfl⟩
  have hEw : Ext w W0 := by rw [hW0]; exact (Ext.refl _).alloc _
  have I0 : W0.cell? ⟨w.heap.size, 0, none⟩ = some (.slice a0 l0_0.length cap0) := by rw [hW0]; simp
  have I1 : W0.cell? ⟨w.heap.size, 1, none⟩ = some (.slice a1 l0_1.length cap1) := by rw [hW0]; simp
  go_enter Tryz.func64, Tryz.ntmps64
  go_wp2
  rw [← hW0]
  clear hW0
  go_loopw [26] (fun i wr => ∃ k : Nat, k ≤ l0_0.length ∧ i = .int .i64 k ∧ Ext W0 wr ∧ Hid ((l0_0.take k).all rowOk = true)) (fun i _ => l0_0.length - (intOf i).toNat)
  case atStart => exact ⟨0, Nat.zero_le _, rfl, Ext.refl _, Lib.hid (by simp)⟩
  case round =>
   obtain ⟨k, hk, rfl, he, hp⟩ := hrel
   have hEr := hEw.trans he
   have J0 := he.cell I0; have J1 := he.cell I1
   by_cases hlt : k < l0_0.length
   ·
    obtain ⟨r, b1, o1, sa, sn, sc, hr, rfl, _, cc, hin0⟩ := HA.out k hlt
    have d0 := hEr.cell cc
    have hin := hin0.ext hEr
    have HR := Lib.hid hr
    clear hr cc hin0
    cases hb : rowOk r
    ·
     go_wp2_with (first | (go_at_call 98; refine (rowOk_c _ _ _ (hin.ext xT)).mono ?_; rintro e w1 ⟨rfl, hx1⟩))
     go_ret
     exact ⟨by rw [diskOk, all_no (p := rowOk) (l := l0_0) HR.out hb]; simp, xT⟩
    go_wp2_with (first | (go_at_call 98; refine (rowOk_c _ _ _ (hin.ext xT)).mono ?_; rintro e w1 ⟨rfl, hx1⟩))
    go_roundw
    case rel => exact ⟨k + 1, by omega, by go_num, he.trans hx1, Lib.hid (all_step HR.out hp.out hb)⟩
    case measure => simp [intOf]; omega
   obtain rfl : k = l0_0.length := by omega
   have hp' := hp.out
   rw [List.take_length] at hp'
   have HP := Lib.hid hp'
   clear hp hp'
   go_wp2
   go_loopw [37] (fun i wr => ∃ k : Nat, k ≤ l0_1.length ∧ i = .int .i64 k ∧ Ext W0 wr ∧ Hid ((l0_1.take k).all (writeOk l0_0.length) = true)) (fun i _ => l0_1.length - (intOf i).toNat)
   case atStart => exact ⟨0, Nat.zero_le _, rfl, he, Lib.hid (by simp)⟩
   case round =>
    clear he hEr J0 J1
    obtain ⟨k, hk, rfl, he, hp⟩ := hrel
    have hEr := hEw.trans he
    have J0 := he.cell I0; have J1 := he.cell I1
    by_cases hlt : k < l0_1.length
    ·
     obtain ⟨d, b1, o1, sa, sn, sc, hd, rfl, _, cc0, cc1, hin0⟩ := HB.out k hlt
     have d0 := hEr.cell cc0; have d1 := hEr.cell cc1
     have hin := hin0.ext hEr
     have hbl : w.heap.size < wr.heap.size := World.block_lt_of_cell? _ _ J0
     have hbm : b1 < wr.heap.size := World.block_lt_of_cell? _ _ d0
     have HD := Lib.hid hd
     clear hd cc0 cc1 hin0
     cases ha : inb d.At 0 (l0_0.length - 1)
     ·
      go_wp2_with (first | (go_at_call 99; refine (sectorOk_c _ _ _ _ _ _ (h0_0.ext (hEr.trans xT)) (h0_1.ext (hEr.trans xT))).mono ?_; rintro e w2 ⟨rfl, hx2⟩; obtain ⟨hcx, _⟩ := hx2.cells; (try simp only [World.size_alloc] at hcx)) | (go_at_call 98; refine (rowOk_c _ _ _ (hin.ext xT)).mono ?_; rintro e w1 ⟨rfl, hx1⟩))
      go_ret
      exact ⟨by rw [diskOk, all_no (p := writeOk l0_0.length) (l := l0_1) HD.out (by simp [writeOk, ha])]; simp, xT⟩
     cases hb : rowOk d.Row
     ·
      go_wp2_with (first | (go_at_call 99; refine (sectorOk_c _ _ _ _ _ _ (h0_0.ext (hEr.trans xT)) (h0_1.ext (hEr.trans xT))).mono ?_; rintro e w2 ⟨rfl, hx2⟩; obtain ⟨hcx, _⟩ := hx2.cells; (try simp only [World.size_alloc] at hcx)) | (go_at_call 98; refine (rowOk_c _ _ _ (hin.ext xT)).mono ?_; rintro e w1 ⟨rfl, hx1⟩))
      go_ret
      exact ⟨by rw [diskOk, all_no (p := writeOk l0_0.length) (l := l0_1) HD.out (by simp [writeOk, hb])]; simp, xT⟩
     go_wp2_with (first | (go_at_call 99; refine (sectorOk_c _ _ _ _ _ _ (h0_0.ext (hEr.trans xT)) (h0_1.ext (hEr.trans xT))).mono ?_; rintro e w2 ⟨rfl, hx2⟩; obtain ⟨hcx, _⟩ := hx2.cells; (try simp only [World.size_alloc] at hcx)) | (go_at_call 98; refine (rowOk_c _ _ _ (hin.ext xT)).mono ?_; rintro e w1 ⟨rfl, hx1⟩))
     go_roundw
     case rel => exact ⟨k + 1, by omega, by go_num, xT, Lib.hid (all_step HD.out hp.out (by simp [writeOk, ha, hb]))⟩
     case measure => simp [intOf]; omega
    obtain rfl : k = l0_1.length := by omega
    have hp' := hp.out
    rw [List.take_length] at hp'
    go_wp2
    go_ret
    have hz' := HZ.out
    exact ⟨by rw [diskOk, HP.out, hp']; simp [hz'], xT⟩
 go_enter Tryz.func64, Tryz.ntmps64
 go_wp2
 all_goals
  go_ret
  exact ⟨by rw [diskOk]; simp; omega, xT⟩
theorem sShelfOk_c (w : World) (s0_0 : Value) (l0_0 : List (List Int)) (s0_1 : Value) (l0_1 : List DWrite) (h0_0 : Nest 0 w s0_0 (nestInt64S l0_0)) (h0_1 : Nest 1 w s0_1 (nestWrite l0_1)) :
  Calls Tryz.prog 31 #[.agg #[s0_0, s0_1]] w (RetV w (.bool (shelfOk (⟨l0_0, l0_1⟩ : DDisk)))) := by
 obtain ⟨a0, cap0, rfl, hc0, hm0, -⟩ := Nest.rows h0_0
 obtain ⟨a1, n1, c1, rfl⟩ := h0_1.shape
 unfold maxLen at hm0
 cases hd : diskOk (⟨l0_0, l0_1⟩ : DDisk)
 all_goals
  go_enter Tryz.func31, Tryz.ntmps31
  go_wp2_with (first | (go_at_call 60; refine (sDiskOk_c _ _ _ _ _ (h0_0.ext xT) (h0_1.ext xT)).mono ?_; rintro e w1 ⟨rfl, hx1⟩; rw [hd]; obtain ⟨hcx, _⟩ := hx1.cells; (try simp only [World.size_alloc] at hcx)))
  all_goals
   go_ret
   refine ⟨by first | (simp [shelfOk, hd]; done) | (simp [shelfOk, hd, bq]; omega) | (simp_all [shelfOk, bq]; done) | (simp_all [shelfOk, bq]; omega), ?_⟩
   exact xT
theorem shelfOk_c (w : World) (s0_0 : Value) (l0_0 : List (List Int)) (s0_1 : Value) (l0_1 : List DWrite) (h0_0 : Nest 0 w s0_0 (nestInt64S l0_0)) (h0_1 : Nest 1 w s0_1 (nestWrite l0_1)) :
  Calls Tryz.prog 54 #[.agg #[s0_0, s0_1]] w (RetV w (.bool (shelfOk (⟨l0_0, l0_1⟩ : DDisk)))) := by
 obtain ⟨a0, cap0, rfl, hc0, hm0, -⟩ := Nest.rows h0_0
 obtain ⟨a1, n1, c1, rfl⟩ := h0_1.shape
 unfold maxLen at hm0
 cases hd : diskOk (⟨l0_0, l0_1⟩ : DDisk)
 all_goals
  go_enter Tryz.func54, Tryz.ntmps54
  go_wp2_with (first | (go_at_call 64; refine (diskOk_c _ _ _ _ _ (h0_0.ext xT) (h0_1.ext xT)).mono ?_; rintro e w1 ⟨rfl, hx1⟩; rw [hd]; obtain ⟨hcx, _⟩ := hx1.cells; (try simp only [World.size_alloc] at hcx)))
  all_goals
   go_ret
   refine ⟨by first | (simp [shelfOk, hd]; done) | (simp [shelfOk, hd, bq]; omega) | (simp_all [shelfOk, bq]; done) | (simp_all [shelfOk, bq]; omega), ?_⟩
   exact xT
end Go.Proofs.YtlnkggpemdpemaaGreat
