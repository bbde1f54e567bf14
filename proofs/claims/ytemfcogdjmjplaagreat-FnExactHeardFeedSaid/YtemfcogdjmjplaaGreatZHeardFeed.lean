/- The statement FnExactHeardFeed: the walk and the row. -/
import Derived.Test.YtemfcogdjmjplaaGreatGj
import Derived.Test.YtemfcogdjmjplaaGreatGb
import Derived.Test.YtemfcogdjmjplaaGreatGx
import Derived.Test.YtemfcogdjmjplaaGreatGl
import Derived.Defers
import Derived.Recover
import Derived.Deep.DeepCutAuto
import Derived.Test.YtemfcogdjmjplaaGreatGn
import Derived.Test.YtemfcogdjmjplaaGreatGk
import Derived.Test.YtemfcogdjmjplaaGreatGi
import Derived.Test.YtemfcogdjmjplaaGreatGo
import Derived.Test.YtemfcogdjmjplaaGreatGc
-- Lists of entries: right or not.
set_option linter.unusedSimpArgs false
set_option linter.unusedVariables false
namespace Go.Proofs.YtemfcogdjmjplaaGreat
open Go.RowKit Go.G8

end Go.Proofs.YtemfcogdjmjplaaGreat
namespace Go.G8
open Go.RowKit
open Go.Proofs.YtemfcogdjmjplaaGreat
/-- Element i of a list of entries is in order. -/
def EntAt (l : List DEntry) (i : Nat) : Prop := ∀ d, l[i]? = some d → entryOk d = true ∧ (∀ e, 0 < i → l[i - 1]? = some e → d.Index = e.Index + 1 ∧ e.Time ≤ d.Time)
def EntriesOk (l : List DEntry) : Prop := l.length ≤ 2000 ∧ ∀ i, i < l.length → EntAt l i
open Classical in
noncomputable def entriesOk (l : List DEntry) : Bool := decide (EntriesOk l)
theorem entriesOk_true {l : List DEntry} (h : EntriesOk l) : entriesOk l = true := by simp [entriesOk, h]
theorem entriesOk_false {l : List DEntry} (h : ¬ EntriesOk l) : entriesOk l = false := by simp [entriesOk, h]
theorem entriesOk_iff {l : List DEntry} : entriesOk l = true ↔ EntriesOk l := by simp [entriesOk]
theorem EntAt.next {l : List DEntry} {k : Nat} {d : DEntry} (hd : l[k]? = some d) (h : ∀ i, i < k → EntAt l i) (h1 : entryOk d = true) (h2 : ∀ e, 0 < k → l[k - 1]? = some e → d.Index = e.Index + 1 ∧ e.Time ≤ d.Time) : ∀ i, i < k + 1 → EntAt l i := by
  intro i hi
  by_cases hik : i = k
  · subst hik
    intro d' hd'
    rw [hd] at hd'
    obtain rfl := Option.some.inj hd'
    exact ⟨h1, h2⟩
  · exact h i (by omega)
end Go.G8
namespace Go.Proofs.YtemfcogdjmjplaaGreat
open Go.RowKit Go.G8
set_option maxHeartbeats 4000000 in
set_option maxRecDepth 100000 in
theorem sEntriesOk_c (w : World) (s0_0 : Value) (l0_0 : List DEntry) (h0_0 : Ints 9 w s0_0 (flEntry l0_0)) : Calls Tryz.prog 84 #[s0_0] w (RetV w (.bool (entriesOk l0_0))) := by
  obtain ⟨a, cap, rfl, hcap, hm, ha⟩ := h0_0.recs (f := DEntry.ints) (fun _ => rfl) (by decide)
  have HA := Lib.hid ha
  clear ha
  unfold maxLen at hm
  by_cases h10 : l0_0.length ≤ 2000
  rotate_left
  · go_enter Tryz.func84, Tryz.ntmps84
    go_wp2
    go_ret
    exact ⟨congrArg (fun z => Ending.returned (.bool z)) (entriesOk_false (fun hh => h10 hh.1)).symm, Ext.refl _⟩
  go_enter Tryz.func84, Tryz.ntmps84
  go_wp2
  go_loopw [3] (fun i wr => ∃ k : Nat, k ≤ l0_0.length ∧ i = .int .i64 k ∧ Ext w wr ∧ Hid (∀ i, i < k → EntAt l0_0 i)) (fun i _ => l0_0.length - (intOf i).toNat)
  case atStart => exact ⟨0, Nat.zero_le _, rfl, Ext.refl _, Lib.hid (fun i hi => by omega)⟩
  case round =>
    obtain ⟨k, hk, rfl, he, HO⟩ := hrel
    by_cases hlt : k < l0_0.length
    · obtain ⟨d, b1, o1, hd, rfl, hb1, c⟩ := HA.out k hlt
      have d0 := he.cell (c 0 _ (by decide) rfl)
      have d1 := he.cell (c 1 _ (by decide) rfl)
      have d2 := he.cell (c 2 _ (by decide) rfl)
      have d3 := he.cell (c 3 _ (by decide) rfl)
      have d4 := he.cell (c 4 _ (by decide) rfl)
      have d5 := he.cell (c 5 _ (by decide) rfl)
      have d6 := he.cell (c 6 _ (by decide) rfl)
      have d7 := he.cell (c 7 _ (by decide) rfl)
      have d8 := he.cell (c 8 _ (by decide) rfl)
      simp only [Nat.add_zero] at d0
      have HD := Lib.hid hd
      clear c hd
      cases hp : entryOk d
      · have x0 := d0; have x1 := d1; have x2 := d2; have x3 := d3; have x4 := d4; have x5 := d5; have x6 := d6; have x7 := d7; have x8 := d8
        have hEW : Ext w wr := he
        obtain ⟨W, hW⟩ : ∃ W, W = wr := ⟨_, rfl⟩
        (try rw [← hW] at e0); (try rw [← hW] at e1)
        rw [← hW] at x0 x1 x2 x3 x4 x5 x6 x7 x8 hEW
        go_wp2
        rw [← hW]
        clear hW

        refine wp_region_ext (by kernel_rfl) (by kernel_rfl) ?_
        repeat (first | go_big_quiet_skip | (go_big_quiet_want; first | (refine quiet_load _ _ _ ?_ rfl rfl (fun wq hq => ?_) ?_; rotate_left; (focus ((try have y0 := hq.cell x0); (try have y1 := hq.cell x1); (try have y2 := hq.cell x2); (try have y3 := hq.cell x3); (try have y4 := hq.cell x4); (try have y5 := hq.cell x5); (try have y6 := hq.cell x6); (try have y7 := hq.cell x7); (try have y8 := hq.cell x8); (try have z0 := hq.cell e0); (try have z1 := hq.cell e1); go_simp; first | done | rfl)); (try simp only [Act.put, List.setIfInBounds_toArray, List.set_cons_zero, List.set_cons_succ]); go_big_quiet_on) | (go_big_quiet_op; first | go_big_quiet_on | (refine ⟨_, fun _ _ => rfl, ?_⟩; go_big_quiet_on) | (apply Exists.intro; refine ⟨fun wq hq => ?_, ?_⟩; (focus (exact call_ext hq (by have c := sEntryOk_e wq d.Index d.Time d.Client d.Seq d.Op.Kind d.Op.A d.Op.B d.Op.C d.Op.D; rw [show entryOk (⟨d.Index, d.Time, d.Client, d.Seq, ⟨d.Op.Kind, d.Op.A, d.Op.B, d.Op.C, d.Op.D⟩⟩ : DEntry) = false from hp] at c; exact c))); go_big_quiet_on))))
        refine wpQuiet_nil ?_
        intro w1 hx1
        go_wp2
        go_ret
        exact ⟨congrArg (fun z => Ending.returned (.bool z)) (entriesOk_false (fun hh => by have := (hh.2 k hlt d HD.out).1; rw [hp] at this; cases this)).symm, hEW.trans hx1⟩

      by_cases hk0 : k = 0
      · subst hk0
        (try simp only [Nat.zero_mul, Nat.add_zero] at d0 d1 d2 d3 d4 d5 d6 d7 d8)
        have x0 := d0; have x1 := d1; have x2 := d2; have x3 := d3; have x4 := d4; have x5 := d5; have x6 := d6; have x7 := d7; have x8 := d8
        have hEW : Ext w wr := he
        obtain ⟨W, hW⟩ : ∃ W, W = wr := ⟨_, rfl⟩
        (try rw [← hW] at e0); (try rw [← hW] at e1)
        rw [← hW] at x0 x1 x2 x3 x4 x5 x6 x7 x8 hEW
        go_wp2
        rw [← hW]
        clear hW

        refine wp_region_ext (by kernel_rfl) (by kernel_rfl) ?_
        repeat (first | go_big_quiet_skip | (go_big_quiet_want; first | (refine quiet_load _ _ _ ?_ rfl rfl (fun wq hq => ?_) ?_; rotate_left; (focus ((try have y0 := hq.cell x0); (try have y1 := hq.cell x1); (try have y2 := hq.cell x2); (try have y3 := hq.cell x3); (try have y4 := hq.cell x4); (try have y5 := hq.cell x5); (try have y6 := hq.cell x6); (try have y7 := hq.cell x7); (try have y8 := hq.cell x8); (try have z0 := hq.cell e0); (try have z1 := hq.cell e1); go_simp; first | done | rfl)); (try simp only [Act.put, List.setIfInBounds_toArray, List.set_cons_zero, List.set_cons_succ]); go_big_quiet_on) | (go_big_quiet_op; first | go_big_quiet_on | (refine ⟨_, fun _ _ => rfl, ?_⟩; go_big_quiet_on) | (apply Exists.intro; refine ⟨fun wq hq => ?_, ?_⟩; (focus (exact call_ext hq (by have c := sEntryOk_e wq d.Index d.Time d.Client d.Seq d.Op.Kind d.Op.A d.Op.B d.Op.C d.Op.D; rw [show entryOk (⟨d.Index, d.Time, d.Client, d.Seq, ⟨d.Op.Kind, d.Op.A, d.Op.B, d.Op.C, d.Op.D⟩⟩ : DEntry) = true from hp] at c; exact c))); go_big_quiet_on))))
        refine wpQuiet_nil ?_
        intro w1 hx1
        go_wp2
        go_roundw
        case rel => exact ⟨0 + 1, by omega, by go_num, hEW.trans hx1, Lib.hid (EntAt.next HD.out HO.out hp (fun e' hh hl => by omega))⟩
        case measure => simp [intOf]; omega

      obtain ⟨e, b2, o2, hde, hbo, _, c⟩ := HA.out (k - 1) (by omega)
      obtain ⟨rfl, rfl⟩ : b1 = b2 ∧ o1 = o2 := by simpa using hbo
      have e0 := he.cell (c 0 _ (by decide) rfl)
      have e1 := he.cell (c 1 _ (by decide) rfl)
      simp only [Nat.add_zero] at e0
      have HE := Lib.hid hde
      obtain ⟨b01, b02, _, _⟩ := entryOk_parts (HO.out (k - 1) (by omega) e hde).1
      clear c hde hbo
      have hk1 : decide (0 < k) = true := by simp; omega
      by_cases hi : d.Index = e.Index + 1
      rotate_left
      · have hi' : (d.Index != e.Index + 1) = true := by simp [hi]
        clear hi
        have x0 := d0; have x1 := d1; have x2 := d2; have x3 := d3; have x4 := d4; have x5 := d5; have x6 := d6; have x7 := d7; have x8 := d8
        have hEW : Ext w wr := he
        obtain ⟨W, hW⟩ : ∃ W, W = wr := ⟨_, rfl⟩
        (try rw [← hW] at e0); (try rw [← hW] at e1)
        rw [← hW] at x0 x1 x2 x3 x4 x5 x6 x7 x8 hEW
        go_wp2
        rw [← hW]
        clear hW

        refine wp_region_ext (by kernel_rfl) (by kernel_rfl) ?_
        repeat (first | go_big_quiet_skip | (go_big_quiet_want; first | (refine quiet_load _ _ _ ?_ rfl rfl (fun wq hq => ?_) ?_; rotate_left; (focus ((try have y0 := hq.cell x0); (try have y1 := hq.cell x1); (try have y2 := hq.cell x2); (try have y3 := hq.cell x3); (try have y4 := hq.cell x4); (try have y5 := hq.cell x5); (try have y6 := hq.cell x6); (try have y7 := hq.cell x7); (try have y8 := hq.cell x8); (try have z0 := hq.cell e0); (try have z1 := hq.cell e1); go_simp; first | done | rfl)); (try simp only [Act.put, List.setIfInBounds_toArray, List.set_cons_zero, List.set_cons_succ]); go_big_quiet_on) | (go_big_quiet_op; first | go_big_quiet_on | (refine ⟨_, fun _ _ => rfl, ?_⟩; go_big_quiet_on) | (apply Exists.intro; refine ⟨fun wq hq => ?_, ?_⟩; (focus (exact call_ext hq (by have c := sEntryOk_e wq d.Index d.Time d.Client d.Seq d.Op.Kind d.Op.A d.Op.B d.Op.C d.Op.D; rw [show entryOk (⟨d.Index, d.Time, d.Client, d.Seq, ⟨d.Op.Kind, d.Op.A, d.Op.B, d.Op.C, d.Op.D⟩⟩ : DEntry) = true from hp] at c; exact c))); go_big_quiet_on))))
        refine wpQuiet_nil ?_
        intro w1 hx1
        go_wp2
        go_ret
        exact ⟨congrArg (fun z => Ending.returned (.bool z)) (entriesOk_false (fun hh => by have := ((hh.2 k hlt d HD.out).2 e (by omega) HE.out).1; simp [this] at hi')).symm, hEW.trans hx1⟩

      have hi' : (d.Index != e.Index + 1) = false := by simp [hi]
      have HI := Lib.hid hi
      clear hi
      by_cases ht : d.Time < e.Time
      · have ht' : decide (d.Time < e.Time) = true := by simpa using ht
        have x0 := d0; have x1 := d1; have x2 := d2; have x3 := d3; have x4 := d4; have x5 := d5; have x6 := d6; have x7 := d7; have x8 := d8
        have hEW : Ext w wr := he
        obtain ⟨W, hW⟩ : ∃ W, W = wr := ⟨_, rfl⟩
        (try rw [← hW] at e0); (try rw [← hW] at e1)
        rw [← hW] at x0 x1 x2 x3 x4 x5 x6 x7 x8 hEW
        go_wp2
        rw [← hW]
        clear hW

        refine wp_region_ext (by kernel_rfl) (by kernel_rfl) ?_
        repeat (first | go_big_quiet_skip | (go_big_quiet_want; first | (refine quiet_load _ _ _ ?_ rfl rfl (fun wq hq => ?_) ?_; rotate_left; (focus ((try have y0 := hq.cell x0); (try have y1 := hq.cell x1); (try have y2 := hq.cell x2); (try have y3 := hq.cell x3); (try have y4 := hq.cell x4); (try have y5 := hq.cell x5); (try have y6 := hq.cell x6); (try have y7 := hq.cell x7); (try have y8 := hq.cell x8); (try have z0 := hq.cell e0); (try have z1 := hq.cell e1); go_simp; first | done | rfl)); (try simp only [Act.put, List.setIfInBounds_toArray, List.set_cons_zero, List.set_cons_succ]); go_big_quiet_on) | (go_big_quiet_op; first | go_big_quiet_on | (refine ⟨_, fun _ _ => rfl, ?_⟩; go_big_quiet_on) | (apply Exists.intro; refine ⟨fun wq hq => ?_, ?_⟩; (focus (exact call_ext hq (by have c := sEntryOk_e wq d.Index d.Time d.Client d.Seq d.Op.Kind d.Op.A d.Op.B d.Op.C d.Op.D; rw [show entryOk (⟨d.Index, d.Time, d.Client, d.Seq, ⟨d.Op.Kind, d.Op.A, d.Op.B, d.Op.C, d.Op.D⟩⟩ : DEntry) = true from hp] at c; exact c))); go_big_quiet_on))))
        refine wpQuiet_nil ?_
        intro w1 hx1
        go_wp2
        go_ret
        exact ⟨congrArg (fun z => Ending.returned (.bool z)) (entriesOk_false (fun hh => by have := ((hh.2 k hlt d HD.out).2 e (by omega) HE.out).2; omega)).symm, hEW.trans hx1⟩

      have ht' : decide (d.Time < e.Time) = false := by simpa using ht
      have x0 := d0; have x1 := d1; have x2 := d2; have x3 := d3; have x4 := d4; have x5 := d5; have x6 := d6; have x7 := d7; have x8 := d8
      have hEW : Ext w wr := he
      obtain ⟨W, hW⟩ : ∃ W, W = wr := ⟨_, rfl⟩
      (try rw [← hW] at e0); (try rw [← hW] at e1)
      rw [← hW] at x0 x1 x2 x3 x4 x5 x6 x7 x8 hEW
      go_wp2
      rw [← hW]
      clear hW

      refine wp_region_ext (by kernel_rfl) (by kernel_rfl) ?_
      repeat (first | go_big_quiet_skip | (go_big_quiet_want; first | (refine quiet_load _ _ _ ?_ rfl rfl (fun wq hq => ?_) ?_; rotate_left; (focus ((try have y0 := hq.cell x0); (try have y1 := hq.cell x1); (try have y2 := hq.cell x2); (try have y3 := hq.cell x3); (try have y4 := hq.cell x4); (try have y5 := hq.cell x5); (try have y6 := hq.cell x6); (try have y7 := hq.cell x7); (try have y8 := hq.cell x8); (try have z0 := hq.cell e0); (try have z1 := hq.cell e1); go_simp; first | done | rfl)); (try simp only [Act.put, List.setIfInBounds_toArray, List.set_cons_zero, List.set_cons_succ]); go_big_quiet_on) | (go_big_quiet_op; first | go_big_quiet_on | (refine ⟨_, fun _ _ => rfl, ?_⟩; go_big_quiet_on) | (apply Exists.intro; refine ⟨fun wq hq => ?_, ?_⟩; (focus (exact call_ext hq (by have c := sEntryOk_e wq d.Index d.Time d.Client d.Seq d.Op.Kind d.Op.A d.Op.B d.Op.C d.Op.D; rw [show entryOk (⟨d.Index, d.Time, d.Client, d.Seq, ⟨d.Op.Kind, d.Op.A, d.Op.B, d.Op.C, d.Op.D⟩⟩ : DEntry) = true from hp] at c; exact c))); go_big_quiet_on))))
      refine wpQuiet_nil ?_
      intro w1 hx1
      go_wp2
      go_roundw
      case rel => exact ⟨k + 1, by omega, by go_num, hEW.trans hx1, Lib.hid (EntAt.next HD.out HO.out hp (fun e' hh hl => by rw [HE.out] at hl; obtain rfl := Option.some.inj hl; exact ⟨HI.out, by omega⟩))⟩
      case measure => simp [intOf]; omega

    · obtain rfl : k = l0_0.length := by omega
      go_wp2
      go_ret
      exact ⟨congrArg (fun z => Ending.returned (.bool z)) (entriesOk_true ⟨h10, HO.out⟩).symm, he⟩
set_option maxHeartbeats 4000000 in
set_option maxRecDepth 100000 in
theorem entriesOk_c (w : World) (s0_0 : Value) (l0_0 : List DEntry) (h0_0 : Ints 9 w s0_0 (flEntry l0_0)) : Calls Tryz.prog 172 #[s0_0] w (RetV w (.bool (entriesOk l0_0))) := by
  obtain ⟨a, cap, rfl, hcap, hm, ha⟩ := h0_0.recs (f := DEntry.ints) (fun _ => rfl) (by decide)
  have HA := Lib.hid ha
  clear ha
  unfold maxLen at hm
  by_cases h10 : l0_0.length ≤ 2000
  rotate_left
  · go_enter Tryz.func172, Tryz.ntmps172
    go_wp2
    go_ret
    exact ⟨congrArg (fun z => Ending.returned (.bool z)) (entriesOk_false (fun hh => h10 hh.1)).symm, Ext.refl _⟩
  go_enter Tryz.func172, Tryz.ntmps172
  go_wp2
  go_loopw [10] (fun i wr => ∃ k : Nat, k ≤ l0_0.length ∧ i = .int .i64 k ∧ Ext w wr ∧ Hid (∀ i, i < k → EntAt l0_0 i)) (fun i _ => l0_0.length - (intOf i).toNat)
  case atStart => exact ⟨0, Nat.zero_le _, rfl, Ext.refl _, Lib.hid (fun i hi => by omega)⟩
  case round =>
    obtain ⟨k, hk, rfl, he, HO⟩ := hrel
    by_cases hlt : k < l0_0.length
    · obtain ⟨d, b1, o1, hd, rfl, hb1, c⟩ := HA.out k hlt
      have d0 := he.cell (c 0 _ (by decide) rfl)
      have d1 := he.cell (c 1 _ (by decide) rfl)
      have d2 := he.cell (c 2 _ (by decide) rfl)
      have d3 := he.cell (c 3 _ (by decide) rfl)
      have d4 := he.cell (c 4 _ (by decide) rfl)
      have d5 := he.cell (c 5 _ (by decide) rfl)
      have d6 := he.cell (c 6 _ (by decide) rfl)
      have d7 := he.cell (c 7 _ (by decide) rfl)
      have d8 := he.cell (c 8 _ (by decide) rfl)
      simp only [Nat.add_zero] at d0
      have HD := Lib.hid hd
      clear c hd
      cases hp : entryOk d
      · go_wp2
        obtain ⟨W, hW⟩ : ∃ W, W = wr.alloc (.cells #[.int .i64 d.Index, .int .i64 d.Time, .int .i64 d.Client, .int .i64 d.Seq, .int .i64 d.Op.Kind, .int .i64 d.Op.A, .int .i64 d.Op.B, .int .i64 d.Op.C, .int .i64 d.Op.D] 94) := ⟨_, rfl⟩
        have x0 : W.cell? ⟨wr.heap.size, 0, none⟩ = some (.int .i64 d.Index) := by rw [hW]; simp
        have x1 : W.cell? ⟨wr.heap.size, 1, none⟩ = some (.int .i64 d.Time) := by rw [hW]; simp
        have x2 : W.cell? ⟨wr.heap.size, 2, none⟩ = some (.int .i64 d.Client) := by rw [hW]; simp
        have x3 : W.cell? ⟨wr.heap.size, 3, none⟩ = some (.int .i64 d.Seq) := by rw [hW]; simp
        have x4 : W.cell? ⟨wr.heap.size, 4, none⟩ = some (.int .i64 d.Op.Kind) := by rw [hW]; simp
        have x5 : W.cell? ⟨wr.heap.size, 5, none⟩ = some (.int .i64 d.Op.A) := by rw [hW]; simp
        have x6 : W.cell? ⟨wr.heap.size, 6, none⟩ = some (.int .i64 d.Op.B) := by rw [hW]; simp
        have x7 : W.cell? ⟨wr.heap.size, 7, none⟩ = some (.int .i64 d.Op.C) := by rw [hW]; simp
        have x8 : W.cell? ⟨wr.heap.size, 8, none⟩ = some (.int .i64 d.Op.D) := by rw [hW]; simp
        have hEW : Ext w W := by rw [hW]; exact he.alloc _
        (try have e0 := (show Ext wr W by rw [hW]; exact (Ext.refl _).alloc _).cell e0); (try have e1 := (show Ext wr W by rw [hW]; exact (Ext.refl _).alloc _).cell e1)
        rw [← hW]
        clear hW

        refine wp_region_ext (by kernel_rfl) (by kernel_rfl) ?_
        repeat (first | go_big_quiet_skip | (go_big_quiet_want; first | (refine quiet_load _ _ _ ?_ rfl rfl (fun wq hq => ?_) ?_; rotate_left; (focus ((try have y0 := hq.cell x0); (try have y1 := hq.cell x1); (try have y2 := hq.cell x2); (try have y3 := hq.cell x3); (try have y4 := hq.cell x4); (try have y5 := hq.cell x5); (try have y6 := hq.cell x6); (try have y7 := hq.cell x7); (try have y8 := hq.cell x8); (try have z0 := hq.cell e0); (try have z1 := hq.cell e1); go_simp; first | done | rfl)); (try simp only [Act.put, List.setIfInBounds_toArray, List.set_cons_zero, List.set_cons_succ]); go_big_quiet_on) | (go_big_quiet_op; first | go_big_quiet_on | (refine ⟨_, fun _ _ => rfl, ?_⟩; go_big_quiet_on) | (apply Exists.intro; refine ⟨fun wq hq => ?_, ?_⟩; (focus (exact call_ext hq (by have c := entryOk_e wq d.Index d.Time d.Client d.Seq d.Op.Kind d.Op.A d.Op.B d.Op.C d.Op.D; rw [show entryOk (⟨d.Index, d.Time, d.Client, d.Seq, ⟨d.Op.Kind, d.Op.A, d.Op.B, d.Op.C, d.Op.D⟩⟩ : DEntry) = false from hp] at c; exact c))); go_big_quiet_on))))
        refine wpQuiet_nil ?_
        intro w1 hx1
        go_wp2
        go_ret
        exact ⟨congrArg (fun z => Ending.returned (.bool z)) (entriesOk_false (fun hh => by have := (hh.2 k hlt d HD.out).1; rw [hp] at this; cases this)).symm, hEW.trans hx1⟩

      by_cases hk0 : k = 0
      · subst hk0
        (try simp only [Nat.zero_mul, Nat.add_zero] at d0 d1 d2 d3 d4 d5 d6 d7 d8)
        go_wp2
        obtain ⟨W, hW⟩ : ∃ W, W = wr.alloc (.cells #[.int .i64 d.Index, .int .i64 d.Time, .int .i64 d.Client, .int .i64 d.Seq, .int .i64 d.Op.Kind, .int .i64 d.Op.A, .int .i64 d.Op.B, .int .i64 d.Op.C, .int .i64 d.Op.D] 94) := ⟨_, rfl⟩
        have x0 : W.cell? ⟨wr.heap.size, 0, none⟩ = some (.int .i64 d.Index) := by rw [hW]; simp
        have x1 : W.cell? ⟨wr.heap.size, 1, none⟩ = some (.int .i64 d.Time) := by rw [hW]; simp
        have x2 : W.cell? ⟨wr.heap.size, 2, none⟩ = some (.int .i64 d.Client) := by rw [hW]; simp
        have x3 : W.cell? ⟨wr.heap.size, 3, none⟩ = some (.int .i64 d.Seq) := by rw [hW]; simp
        have x4 : W.cell? ⟨wr.heap.size, 4, none⟩ = some (.int .i64 d.Op.Kind) := by rw [hW]; simp
        have x5 : W.cell? ⟨wr.heap.size, 5, none⟩ = some (.int .i64 d.Op.A) := by rw [hW]; simp
        have x6 : W.cell? ⟨wr.heap.size, 6, none⟩ = some (.int .i64 d.Op.B) := by rw [hW]; simp
        have x7 : W.cell? ⟨wr.heap.size, 7, none⟩ = some (.int .i64 d.Op.C) := by rw [hW]; simp
        have x8 : W.cell? ⟨wr.heap.size, 8, none⟩ = some (.int .i64 d.Op.D) := by rw [hW]; simp
        have hEW : Ext w W := by rw [hW]; exact he.alloc _
        (try have e0 := (show Ext wr W by rw [hW]; exact (Ext.refl _).alloc _).cell e0); (try have e1 := (show Ext wr W by rw [hW]; exact (Ext.refl _).alloc _).cell e1)
        rw [← hW]
        clear hW

        refine wp_region_ext (by kernel_rfl) (by kernel_rfl) ?_
        repeat (first | go_big_quiet_skip | (go_big_quiet_want; first | (refine quiet_load _ _ _ ?_ rfl rfl (fun wq hq => ?_) ?_; rotate_left; (focus ((try have y0 := hq.cell x0); (try have y1 := hq.cell x1); (try have y2 := hq.cell x2); (try have y3 := hq.cell x3); (try have y4 := hq.cell x4); (try have y5 := hq.cell x5); (try have y6 := hq.cell x6); (try have y7 := hq.cell x7); (try have y8 := hq.cell x8); (try have z0 := hq.cell e0); (try have z1 := hq.cell e1); go_simp; first | done | rfl)); (try simp only [Act.put, List.setIfInBounds_toArray, List.set_cons_zero, List.set_cons_succ]); go_big_quiet_on) | (go_big_quiet_op; first | go_big_quiet_on | (refine ⟨_, fun _ _ => rfl, ?_⟩; go_big_quiet_on) | (apply Exists.intro; refine ⟨fun wq hq => ?_, ?_⟩; (focus (exact call_ext hq (by have c := entryOk_e wq d.Index d.Time d.Client d.Seq d.Op.Kind d.Op.A d.Op.B d.Op.C d.Op.D; rw [show entryOk (⟨d.Index, d.Time, d.Client, d.Seq, ⟨d.Op.Kind, d.Op.A, d.Op.B, d.Op.C, d.Op.D⟩⟩ : DEntry) = true from hp] at c; exact c))); go_big_quiet_on))))
        refine wpQuiet_nil ?_
        intro w1 hx1
        go_wp2
        go_roundw
        case rel => exact ⟨0 + 1, by omega, by go_num, hEW.trans hx1, Lib.hid (EntAt.next HD.out HO.out hp (fun e' hh hl => by omega))⟩
        case measure => simp [intOf]; omega

      obtain ⟨e, b2, o2, hde, hbo, _, c⟩ := HA.out (k - 1) (by omega)
      obtain ⟨rfl, rfl⟩ : b1 = b2 ∧ o1 = o2 := by simpa using hbo
      have e0 := he.cell (c 0 _ (by decide) rfl)
      have e1 := he.cell (c 1 _ (by decide) rfl)
      simp only [Nat.add_zero] at e0
      have HE := Lib.hid hde
      obtain ⟨b01, b02, _, _⟩ := entryOk_parts (HO.out (k - 1) (by omega) e hde).1
      clear c hde hbo
      have hk1 : decide (0 < k) = true := by simp; omega
      by_cases hi : d.Index = e.Index + 1
      rotate_left
      · have hi' : (d.Index != e.Index + 1) = true := by simp [hi]
        clear hi
        go_wp2
        obtain ⟨W, hW⟩ : ∃ W, W = wr.alloc (.cells #[.int .i64 d.Index, .int .i64 d.Time, .int .i64 d.Client, .int .i64 d.Seq, .int .i64 d.Op.Kind, .int .i64 d.Op.A, .int .i64 d.Op.B, .int .i64 d.Op.C, .int .i64 d.Op.D] 94) := ⟨_, rfl⟩
        have x0 : W.cell? ⟨wr.heap.size, 0, none⟩ = some (.int .i64 d.Index) := by rw [hW]; simp
        have x1 : W.cell? ⟨wr.heap.size, 1, none⟩ = some (.int .i64 d.Time) := by rw [hW]; simp
        have x2 : W.cell? ⟨wr.heap.size, 2, none⟩ = some (.int .i64 d.Client) := by rw [hW]; simp
        have x3 : W.cell? ⟨wr.heap.size, 3, none⟩ = some (.int .i64 d.Seq) := by rw [hW]; simp
        have x4 : W.cell? ⟨wr.heap.size, 4, none⟩ = some (.int .i64 d.Op.Kind) := by rw [hW]; simp
        have x5 : W.cell? ⟨wr.heap.size, 5, none⟩ = some (.int .i64 d.Op.A) := by rw [hW]; simp
        have x6 : W.cell? ⟨wr.heap.size, 6, none⟩ = some (.int .i64 d.Op.B) := by rw [hW]; simp
        have x7 : W.cell? ⟨wr.heap.size, 7, none⟩ = some (.int .i64 d.Op.C) := by rw [hW]; simp
        have x8 : W.cell? ⟨wr.heap.size, 8, none⟩ = some (.int .i64 d.Op.D) := by rw [hW]; simp
        have hEW : Ext w W := by rw [hW]; exact he.alloc _
        (try have e0 := (show Ext wr W by rw [hW]; exact (Ext.refl _).alloc _).cell e0); (try have e1 := (show Ext wr W by rw [hW]; exact (Ext.refl _).alloc _).cell e1)
        rw [← hW]
        clear hW

        refine wp_region_ext (by kernel_rfl) (by kernel_rfl) ?_
        repeat (first | go_big_quiet_skip | (go_big_quiet_want; first | (refine quiet_load _ _ _ ?_ rfl rfl (fun wq hq => ?_) ?_; rotate_left; (focus ((try have y0 := hq.cell x0); (try have y1 := hq.cell x1); (try have y2 := hq.cell x2); (try have y3 := hq.cell x3); (try have y4 := hq.cell x4); (try have y5 := hq.cell x5); (try have y6 := hq.cell x6); (try have y7 := hq.cell x7); (try have y8 := hq.cell x8); (try have z0 := hq.cell e0); (try have z1 := hq.cell e1); go_simp; first | done | rfl)); (try simp only [Act.put, List.setIfInBounds_toArray, List.set_cons_zero, List.set_cons_succ]); go_big_quiet_on) | (go_big_quiet_op; first | go_big_quiet_on | (refine ⟨_, fun _ _ => rfl, ?_⟩; go_big_quiet_on) | (apply Exists.intro; refine ⟨fun wq hq => ?_, ?_⟩; (focus (exact call_ext hq (by have c := entryOk_e wq d.Index d.Time d.Client d.Seq d.Op.Kind d.Op.A d.Op.B d.Op.C d.Op.D; rw [show entryOk (⟨d.Index, d.Time, d.Client, d.Seq, ⟨d.Op.Kind, d.Op.A, d.Op.B, d.Op.C, d.Op.D⟩⟩ : DEntry) = true from hp] at c; exact c))); go_big_quiet_on))))
        refine wpQuiet_nil ?_
        intro w1 hx1
        go_wp2
        go_ret
        exact ⟨congrArg (fun z => Ending.returned (.bool z)) (entriesOk_false (fun hh => by have := ((hh.2 k hlt d HD.out).2 e (by omega) HE.out).1; simp [this] at hi')).symm, hEW.trans hx1⟩

      have hi' : (d.Index != e.Index + 1) = false := by simp [hi]
      have HI := Lib.hid hi
      clear hi
      by_cases ht : d.Time < e.Time
      · have ht' : decide (d.Time < e.Time) = true := by simpa using ht
        go_wp2
        obtain ⟨W, hW⟩ : ∃ W, W = wr.alloc (.cells #[.int .i64 d.Index, .int .i64 d.Time, .int .i64 d.Client, .int .i64 d.Seq, .int .i64 d.Op.Kind, .int .i64 d.Op.A, .int .i64 d.Op.B, .int .i64 d.Op.C, .int .i64 d.Op.D] 94) := ⟨_, rfl⟩
        have x0 : W.cell? ⟨wr.heap.size, 0, none⟩ = some (.int .i64 d.Index) := by rw [hW]; simp
        have x1 : W.cell? ⟨wr.heap.size, 1, none⟩ = some (.int .i64 d.Time) := by rw [hW]; simp
        have x2 : W.cell? ⟨wr.heap.size, 2, none⟩ = some (.int .i64 d.Client) := by rw [hW]; simp
        have x3 : W.cell? ⟨wr.heap.size, 3, none⟩ = some (.int .i64 d.Seq) := by rw [hW]; simp
        have x4 : W.cell? ⟨wr.heap.size, 4, none⟩ = some (.int .i64 d.Op.Kind) := by rw [hW]; simp
        have x5 : W.cell? ⟨wr.heap.size, 5, none⟩ = some (.int .i64 d.Op.A) := by rw [hW]; simp
        have x6 : W.cell? ⟨wr.heap.size, 6, none⟩ = some (.int .i64 d.Op.B) := by rw [hW]; simp
        have x7 : W.cell? ⟨wr.heap.size, 7, none⟩ = some (.int .i64 d.Op.C) := by rw [hW]; simp
        have x8 : W.cell? ⟨wr.heap.size, 8, none⟩ = some (.int .i64 d.Op.D) := by rw [hW]; simp
        have hEW : Ext w W := by rw [hW]; exact he.alloc _
        (try have e0 := (show Ext wr W by rw [hW]; exact (Ext.refl _).alloc _).cell e0); (try have e1 := (show Ext wr W by rw [hW]; exact (Ext.refl _).alloc _).cell e1)
        rw [← hW]
        clear hW

        refine wp_region_ext (by kernel_rfl) (by kernel_rfl) ?_
        repeat (first | go_big_quiet_skip | (go_big_quiet_want; first | (refine quiet_load _ _ _ ?_ rfl rfl (fun wq hq => ?_) ?_; rotate_left; (focus ((try have y0 := hq.cell x0); (try have y1 := hq.cell x1); (try have y2 := hq.cell x2); (try have y3 := hq.cell x3); (try have y4 := hq.cell x4); (try have y5 := hq.cell x5); (try have y6 := hq.cell x6); (try have y7 := hq.cell x7); (try have y8 := hq.cell x8); (try have z0 := hq.cell e0); (try have z1 := hq.cell e1); go_simp; first | done | rfl)); (try simp only [Act.put, List.setIfInBounds_toArray, List.set_cons_zero, List.set_cons_succ]); go_big_quiet_on) | (go_big_quiet_op; first | go_big_quiet_on | (refine ⟨_, fun _ _ => rfl, ?_⟩; go_big_quiet_on) | (apply Exists.intro; refine ⟨fun wq hq => ?_, ?_⟩; (focus (exact call_ext hq (by have c := entryOk_e wq d.Index d.Time d.Client d.Seq d.Op.Kind d.Op.A d.Op.B d.Op.C d.Op.D; rw [show entryOk (⟨d.Index, d.Time, d.Client, d.Seq, ⟨d.Op.Kind, d.Op.A, d.Op.B, d.Op.C, d.Op.D⟩⟩ : DEntry) = true from hp] at c; exact c))); go_big_quiet_on))))
        refine wpQuiet_nil ?_
        intro w1 hx1
        go_wp2
        go_ret
        exact ⟨congrArg (fun z => Ending.returned (.bool z)) (entriesOk_false (fun hh => by have := ((hh.2 k hlt d HD.out).2 e (by omega) HE.out).2; omega)).symm, hEW.trans hx1⟩

      have ht' : decide (d.Time < e.Time) = false := by simpa using ht
      go_wp2
      obtain ⟨W, hW⟩ : ∃ W, W = wr.alloc (.cells #[.int .i64 d.Index, .int .i64 d.Time, .int .i64 d.Client, .int .i64 d.Seq, .int .i64 d.Op.Kind, .int .i64 d.Op.A, .int .i64 d.Op.B, .int .i64 d.Op.C, .int .i64 d.Op.D] 94) := ⟨_, rfl⟩
      have x0 : W.cell? ⟨wr.heap.size, 0, none⟩ = some (.int .i64 d.Index) := by rw [hW]; simp
      have x1 : W.cell? ⟨wr.heap.size, 1, none⟩ = some (.int .i64 d.Time) := by rw [hW]; simp
      have x2 : W.cell? ⟨wr.heap.size, 2, none⟩ = some (.int .i64 d.Client) := by rw [hW]; simp
      have x3 : W.cell? ⟨wr.heap.size, 3, none⟩ = some (.int .i64 d.Seq) := by rw [hW]; simp
      have x4 : W.cell? ⟨wr.heap.size, 4, none⟩ = some (.int .i64 d.Op.Kind) := by rw [hW]; simp
      have x5 : W.cell? ⟨wr.heap.size, 5, none⟩ = some (.int .i64 d.Op.A) := by rw [hW]; simp
      have x6 : W.cell? ⟨wr.heap.size, 6, none⟩ = some (.int .i64 d.Op.B) := by rw [hW]; simp
      have x7 : W.cell? ⟨wr.heap.size, 7, none⟩ = some (.int .i64 d.Op.C) := by rw [hW]; simp
      have x8 : W.cell? ⟨wr.heap.size, 8, none⟩ = some (.int .i64 d.Op.D) := by rw [hW]; simp
      have hEW : Ext w W := by rw [hW]; exact he.alloc _
      (try have e0 := (show Ext wr W by rw [hW]; exact (Ext.refl _).alloc _).cell e0); (try have e1 := (show Ext wr W by rw [hW]; exact (Ext.refl _).alloc _).cell e1)
      rw [← hW]
      clear hW

      refine wp_region_ext (by kernel_rfl) (by kernel_rfl) ?_
      repeat (first | go_big_quiet_skip | (go_big_quiet_want; first | (refine quiet_load _ _ _ ?_ rfl rfl (fun wq hq => ?_) ?_; rotate_left; (focus ((try have y0 := hq.cell x0); (try have y1 := hq.cell x1); (try have y2 := hq.cell x2); (try have y3 := hq.cell x3); (try have y4 := hq.cell x4); (try have y5 := hq.cell x5); (try have y6 := hq.cell x6); (try have y7 := hq.cell x7); (try have y8 := hq.cell x8); (try have z0 := hq.cell e0); (try have z1 := hq.cell e1); go_simp; first | done | rfl)); (try simp only [Act.put, List.setIfInBounds_toArray, List.set_cons_zero, List.set_cons_succ]); go_big_quiet_on) | (go_big_quiet_op; first | go_big_quiet_on | (refine ⟨_, fun _ _ => rfl, ?_⟩; go_big_quiet_on) | (apply Exists.intro; refine ⟨fun wq hq => ?_, ?_⟩; (focus (exact call_ext hq (by have c := entryOk_e wq d.Index d.Time d.Client d.Seq d.Op.Kind d.Op.A d.Op.B d.Op.C d.Op.D; rw [show entryOk (⟨d.Index, d.Time, d.Client, d.Seq, ⟨d.Op.Kind, d.Op.A, d.Op.B, d.Op.C, d.Op.D⟩⟩ : DEntry) = true from hp] at c; exact c))); go_big_quiet_on))))
      refine wpQuiet_nil ?_
      intro w1 hx1
      go_wp2
      go_roundw
      case rel => exact ⟨k + 1, by omega, by go_num, hEW.trans hx1, Lib.hid (EntAt.next HD.out HO.out hp (fun e' hh hl => by rw [HE.out] at hl; obtain rfl := Option.some.inj hl; exact ⟨HI.out, by omega⟩))⟩
      case measure => simp [intOf]; omega

    · obtain rfl : k = l0_0.length := by omega
      go_wp2
      go_ret
      exact ⟨congrArg (fun z => Ending.returned (.bool z)) (entriesOk_true ⟨h10, HO.out⟩).symm, he⟩

end Go.Proofs.YtemfcogdjmjplaaGreat

-- Feeds: right or not (the program).
set_option linter.unusedSimpArgs false
set_option linter.unusedVariables false
namespace Go.Proofs.YtemfcogdjmjplaaGreat
open Go.RowKit Go.G8

end Go.Proofs.YtemfcogdjmjplaaGreat
namespace Go.G8
open Go.RowKit
open Go.Proofs.YtemfcogdjmjplaaGreat
noncomputable def feedOk (f : DFeed) : Bool := inb f.Base 0 f.Last && (decide (f.Last ≤ 2000) && (decide (f.Entries.length ≤ 3) && (entriesOk f.Entries && f.Entries.all (fun e => decide (f.Base < e.Index) && decide (e.Index ≤ f.Last)))))
theorem entries_up {l : List DEntry} (h : entriesOk l = true) : ∀ (n i : Nat) (d e : DEntry), l[i + n]? = some d → l[i]? = some e → e.Index ≤ d.Index := by
  have h := (entriesOk_iff.1 h).2
  intro n
  induction n with
  | zero => intro i d e hd he; rw [Nat.add_zero, he] at hd; obtain rfl := Option.some.inj hd; exact Int.le_refl _
  | succ n ih =>
    intro i d e hd he
    have hlt := (List.getElem?_eq_some_iff.1 hd).1
    have hm : l[i + n]? = some l[i + n] := List.getElem?_eq_getElem (by omega)
    have h1 := ih i _ e hm he
    have h2 := (h (i + (n + 1)) hlt d hd).2 l[i + n] (by omega) (by rw [show i + (n + 1) - 1 = i + n by omega]; exact hm)
    omega
theorem feed_ends {f : DFeed} {d e : DEntry} (h : entriesOk f.Entries = true) (hd : f.Entries[0]? = some d) (he : f.Entries[f.Entries.length - 1]? = some e) : f.Entries.all (fun e => decide (f.Base < e.Index) && decide (e.Index ≤ f.Last)) = (decide (f.Base < d.Index) && decide (e.Index ≤ f.Last)) := by
  have h0 := (List.getElem?_eq_some_iff.1 hd).1
  rw [Bool.eq_iff_iff, List.all_eq_true, Bool.and_eq_true]
  simp only [decide_eq_true_eq, Bool.and_eq_true]
  constructor
  · intro hall
    exact ⟨(hall d (List.mem_of_getElem? hd)).1, (hall e (List.mem_of_getElem? he)).2⟩
  · rintro ⟨h1, h2⟩ x hx
    obtain ⟨i, hi⟩ := List.mem_iff_getElem?.1 hx
    have hlt := (List.getElem?_eq_some_iff.1 hi).1
    have h3 := entries_up h i 0 x d (by rw [Nat.zero_add]; exact hi) hd
    have h4 := entries_up h (f.Entries.length - 1 - i) i e x (by rw [show i + (f.Entries.length - 1 - i) = f.Entries.length - 1 by omega]; exact he) hi
    omega
end Go.G8
namespace Go.Proofs.YtemfcogdjmjplaaGreat
open Go.RowKit Go.G8
def RdFeed (w : World) (v : Value) (f : DFeed) : Prop := ∃ t2 : Value, v = .agg #[.int .i64 f.Base, .int .i64 f.Last, t2] ∧ Ints 9 w t2 (flEntry f.Entries)
theorem RdFeed.ext {w w' : World} {v : Value} {f : DFeed} (h : RdFeed w v f) (x : Ext w w') : RdFeed w' v f := let ⟨t, e, h⟩ := h; ⟨t, e, h.ext x⟩
set_option maxHeartbeats 4000000 in
set_option maxRecDepth 100000 in
theorem mustBe_yes (w : World) : Calls Tryz.prog 101 #[.bool true] w (fun e w' => e = .returned (.tuple #[]) ∧ w = w') := by
  go_enter Tryz.func101, Tryz.ntmps101
  go_wp2_with fail
  go_end0
  exact ⟨rfl, rfl⟩
set_option maxHeartbeats 4000000 in
set_option maxRecDepth 100000 in
theorem mustBe_no (w : World) : Calls Tryz.prog 101 #[.bool false] w (fun e w' => (∃ v, e = .panicked [{ v := .iface 9 v, recovered := false }]) ∧ w = w') := by
  go_enter Tryz.func101, Tryz.ntmps101
  go_wp2_with fail
  exact ⟨rfl, ⟨_, rfl⟩, rfl⟩
set_option maxHeartbeats 4000000 in
set_option maxRecDepth 100000 in
theorem feedOk_r {w : World} {v : Value} {f : DFeed} (h : RdFeed w v f) : Calls Tryz.prog 102 #[v] w (RetV w (.bool (feedOk f))) := by
  obtain ⟨t2, rfl, h2⟩ := h
  have HL := Lib.hid h2
  obtain ⟨a2, k2, rfl, hcap, hm, ha⟩ := h2.recs (f := DEntry.ints) (fun _ => rfl) (by decide)
  have HA := Lib.hid ha
  clear ha h2
  unfold maxLen at hm
  obtain ⟨W1, hW1⟩ : ∃ W1, W1 = w.alloc (.cells #[.int .i64 f.Base, .int .i64 f.Last, .slice a2 f.Entries.length k2] 53) := ⟨_, rfl⟩
  have E1 : Ext w W1 := by rw [hW1]; exact (Ext.refl _).alloc _
  have KF1 : Blk W1 w.heap.size 53 #[.int .i64 f.Base, .int .i64 f.Last, .slice a2 f.Entries.length k2] := by rw [hW1]; exact Blk.new _ _ _
  have HW1 := Lib.hid hW1
  clear hW1
  have C1 := KF1.cell; have L1 := KF1.lt
  go_enter Tryz.func102, Tryz.ntmps102
  go_wp2_with fail
  rw [← HW1.out]
  go_wp2_with fail
  refine (between_c _ f.Base 0 f.Last).mono ?_
  rintro e9 w1 ⟨rfl, rfl⟩
  cases hb : inb f.Base 0 f.Last
  · have HE := Lib.hid (show feedOk f = false from by simp [feedOk, hb])
    go_wp2_with fail
    go_ret
    exact ⟨by (rw [HE.out]; try rfl), E1⟩

  have HB9 := Lib.hid hb
  clear hb
  by_cases hl : f.Last ≤ 2000
  rotate_left
  · have HE := Lib.hid (show feedOk f = false from by simp [feedOk, hl])
    go_wp2_with fail
    go_ret
    exact ⟨by (rw [HE.out]; try rfl), E1⟩

  by_cases hn : f.Entries.length ≤ 3
  rotate_left
  · have HE := Lib.hid (show feedOk f = false from by simp [feedOk, hn])
    go_wp2_with fail
    go_ret
    exact ⟨by (rw [HE.out]; try rfl), E1⟩

  go_wp2_with fail
  refine (entriesOk_c _ _ f.Entries (HL.out.ext E1)).mono ?_
  rintro e9 w2 ⟨rfl, hx2⟩
  have E2 := E1.trans hx2
  have KF2 := KF1.ext hx2
  clear C1 L1
  have C2 := KF2.cell; have L2 := KF2.lt
  cases he : entriesOk f.Entries
  · have HE := Lib.hid (show feedOk f = false from by simp [feedOk, he])
    go_wp2_with fail
    go_ret
    exact ⟨by (rw [HE.out]; try rfl), E2⟩

  have HEO := Lib.hid he
  clear he
  have HALL : Hid (feedOk f = f.Entries.all (fun e => decide (f.Base < e.Index) && decide (e.Index ≤ f.Last))) := Lib.hid (by simp [feedOk, HB9.out, hl, hn, HEO.out])
  go_wp2_with fail
  go_loopw [31] (fun i wr => ∃ k : Nat, k ≤ f.Entries.length ∧ i = .int .i64 k ∧ Ext W1 wr ∧ Hid ((f.Entries.take k).all (fun e => decide (f.Base < e.Index) && decide (e.Index ≤ f.Last)) = true)) (fun i _ => f.Entries.length - (intOf i).toNat)
  case atStart => exact ⟨0, Nat.zero_le _, rfl, hx2, Lib.hid (by simp)⟩
  case round =>
    obtain ⟨k, hk, rfl, hr, hall⟩ := hrel
    have Er := E1.trans hr
    have KFr := KF1.ext hr
    clear C2 L2
    by_cases hlt : k < f.Entries.length
    · obtain ⟨d, b1, o1, hd, rfl, hb1, c⟩ := HA.out k hlt
      have d0 := Er.cell (c 0 _ (by decide) rfl)
      have d1 := Er.cell (c 1 _ (by decide) rfl)
      have d2 := Er.cell (c 2 _ (by decide) rfl)
      have d3 := Er.cell (c 3 _ (by decide) rfl)
      have d4 := Er.cell (c 4 _ (by decide) rfl)
      have d5 := Er.cell (c 5 _ (by decide) rfl)
      have d6 := Er.cell (c 6 _ (by decide) rfl)
      have d7 := Er.cell (c 7 _ (by decide) rfl)
      have d8 := Er.cell (c 8 _ (by decide) rfl)
      simp only [Nat.add_zero] at d0
      have HD := Lib.hid hd
      clear c hd
      have Cr := KFr.cell; have Lr := KFr.lt
      by_cases q1 : d.Index ≤ f.Base
      · have HE := Lib.hid (show feedOk f = false from by rw [HALL.out]; exact all_no HD.out (by simp; omega))
        go_wp2_with fail
        go_ret
        exact ⟨by (rw [HE.out]; try rfl), Er.alloc _⟩
      by_cases q2 : f.Last < d.Index
      · have HE := Lib.hid (show feedOk f = false from by rw [HALL.out]; exact all_no HD.out (by simp; omega))
        go_wp2_with fail
        go_ret
        exact ⟨by (rw [HE.out]; try rfl), Er.alloc _⟩
      go_wp2_with fail
      go_roundw
      case rel => exact ⟨k + 1, by omega, by go_num, hr.alloc _, Lib.hid (all_step HD.out hall.out (by simp; omega))⟩
      case measure => simp [intOf]; omega
    · obtain rfl : k = f.Entries.length := by omega
      have HE := Lib.hid (show feedOk f = true from by rw [HALL.out]; have := hall.out; rwa [List.take_length] at this)
      go_wp2_with fail
      go_ret
      exact ⟨by (rw [HE.out]; try rfl), Er⟩

end Go.Proofs.YtemfcogdjmjplaaGreat

-- The entries of a feed followed: the program.
set_option linter.unusedSimpArgs false
set_option linter.unusedVariables false
namespace Go.Proofs.YtemfcogdjmjplaaGreat
open Go.RowKit Go.G8

end Go.Proofs.YtemfcogdjmjplaaGreat
namespace Go.G8
open Go.RowKit
open Go.Proofs.YtemfcogdjmjplaaGreat
/-- The state behind the entries that are the next ones. -/
noncomputable def feedS : DState → List DEntry → DState
  | s, [] => s
  | s, e :: t => feedS (if nextIn s e then stepS s e else s) t
theorem feedS_snoc (a : List DEntry) (e : DEntry) : ∀ s : DState, feedS s (a ++ [e]) = (if nextIn (feedS s a) e then stepS (feedS s a) e else feedS s a) := by
  induction a with
  | nil => intro s; rfl
  | cons x a ih => intro s; exact ih _
theorem feedS_next {s m : DState} {l : List DEntry} {k : Nat} {e : DEntry} (h : feedS s (l.take k) = m) (he : l[k]? = some e) : feedS s (l.take (k + 1)) = (if nextIn m e then stepS m e else m) := by
  rw [List.take_add_one, he, Option.toList_some, feedS_snoc, h]
theorem feedS_ok (a : List DEntry) : ∀ s : DState, stateOk s = true → stateOk (feedS s a) = true := by
  induction a with
  | nil => intro s h; exact h
  | cons e a ih =>
    intro s h
    simp only [feedS]
    split
    · rename_i hn; exact ih _ (stepS_ok h hn)
    · exact ih _ h
end Go.G8
namespace Go.Proofs.YtemfcogdjmjplaaGreat
open Go.RowKit Go.G8
set_option maxHeartbeats 4000000 in
set_option maxRecDepth 100000 in
theorem followed_no {w : World} {B : Nat} {v u : Value} {s : DState} {f : DFeed} (h : IsState B w v s) (hB : B ≤ w.heap.size) (hf : RdFeed w u f) (hs : stateOk s = true) (hno : feedOk f = false) : Calls Tryz.prog 43 #[v, u] w (fun e w' => (∃ x, e = .panicked [{ v := .iface 9 x, recovered := false }]) ∧ Ext w w') := by
  have HS := Lib.hid h.rd
  have HSO := Lib.hid hs
  have HF := Lib.hid hf
  obtain ⟨t4, t5, rfl, h4, h5⟩ := h
  obtain ⟨a4, n4, k4, rfl⟩ := h4.shape
  obtain ⟨a5, n5, k5, rfl⟩ := h5.shape
  obtain ⟨t2, rfl, h2⟩ := hf
  obtain ⟨a2, k2, rfl, hcap, hm, ha⟩ := h2.recs (f := DEntry.ints) (fun _ => rfl) (by decide)
  have HA := Lib.hid ha
  clear ha h2 hs
  unfold maxLen at hm
  obtain ⟨W1, hW1⟩ : ∃ W1, W1 = ((w.alloc (.cells #[.int .i64 s.Index, .int .i64 s.Time, .slice a4 n4 k4, .slice a5 n5 k5, .int .i64 s.Lease.Holder, .int .i64 s.Lease.Epoch, .int .i64 s.Lease.Until] 46)).alloc (.cells #[.int .i64 f.Base, .int .i64 f.Last, .slice a2 f.Entries.length k2] 53)).alloc (.cells #[.int .i64 0, .int .i64 0, .slice none 0 0, .slice none 0 0, .int .i64 0, .int .i64 0, .int .i64 0] 46) := ⟨_, rfl⟩
  have E1 : Ext w W1 := by rw [hW1]; exact (((Ext.refl _).alloc _).alloc _).alloc _
  have KX1 : Blk W1 w.heap.size 46 #[.int .i64 s.Index, .int .i64 s.Time, .slice a4 n4 k4, .slice a5 n5 k5, .int .i64 s.Lease.Holder, .int .i64 s.Lease.Epoch, .int .i64 s.Lease.Until] := by rw [hW1]; exact ((Blk.new _ _ _).alloc _).alloc _
  have KF1 : Blk W1 (w.heap.size + 1) 53 #[.int .i64 f.Base, .int .i64 f.Last, .slice a2 f.Entries.length k2] := by rw [hW1]; exact (Blk.new2 _ _ _ _).alloc _
  have KR1 : Blk W1 (w.heap.size + 1 + 1) 46 #[.int .i64 0, .int .i64 0, .slice none 0 0, .slice none 0 0, .int .i64 0, .int .i64 0, .int .i64 0] := by rw [hW1]; exact Blk.new3 _ _ _ _ _
  have hz1' : w.heap.size + 2 < W1.heap.size := by rw [hW1]; simp
  have HW1 := Lib.hid hW1
  clear hW1
  have CX1 := KX1.cell; have FX1 := KX1.frozen; have LX1 := KX1.lt; have CF1 := KF1.cell; have FF1 := KF1.frozen; have LF1 := KF1.lt; have CR1 := KR1.cell; have FR1 := KR1.frozen; have LR1 := KR1.lt
  go_enter Tryz.func43, Tryz.ntmps43
  go_wp2_with fail
  rw [← HW1.out]
  go_wp2_with fail
  refine (feedOk_r (HF.out.ext E1)).mono ?_
  rintro e9 w2 ⟨rfl, hx2⟩
  have E2 := E1.trans hx2
  have hz2 := hx2.size
  have KX2 := KX1.ext hx2; have KF2 := KF1.ext hx2; have KR2 := KR1.ext hx2
  clear CX1 FX1 LX1 CF1 FF1 LF1 CR1 FR1 LR1
  have CX2 := KX2.cell; have FX2 := KX2.frozen; have LX2 := KX2.lt; have CF2 := KF2.cell; have FF2 := KF2.frozen; have LF2 := KF2.lt; have CR2 := KR2.cell; have FR2 := KR2.frozen; have LR2 := KR2.lt
  rw [hno]
  go_wp2_with fail
  refine (mustBe_no _).mono ?_
  rintro e9 w3 ⟨⟨x, rfl⟩, rfl⟩
  go_wp2_with fail
  exact ⟨rfl, ⟨_, rfl⟩, E2⟩
set_option maxHeartbeats 4000000 in
set_option maxRecDepth 100000 in
theorem followed_yes {w : World} {B : Nat} {v u : Value} {s : DState} {f : DFeed} (h : IsState B w v s) (hB : B ≤ w.heap.size) (hf : RdFeed w u f) (hs : stateOk s = true) (hyes : feedOk f = true) : Calls Tryz.prog 43 #[v, u] w (Ret w fun r w' => IsState B w' r (feedS s f.Entries)) := by
  have HS := Lib.hid h.rd
  have HSO := Lib.hid hs
  have HF := Lib.hid hf
  obtain ⟨t4, t5, rfl, h4, h5⟩ := h
  obtain ⟨a4, n4, k4, rfl⟩ := h4.shape
  obtain ⟨a5, n5, k5, rfl⟩ := h5.shape
  obtain ⟨t2, rfl, h2⟩ := hf
  obtain ⟨a2, k2, rfl, hcap, hm, ha⟩ := h2.recs (f := DEntry.ints) (fun _ => rfl) (by decide)
  have HA := Lib.hid ha
  clear ha h2 hs
  unfold maxLen at hm
  obtain ⟨W1, hW1⟩ : ∃ W1, W1 = ((w.alloc (.cells #[.int .i64 s.Index, .int .i64 s.Time, .slice a4 n4 k4, .slice a5 n5 k5, .int .i64 s.Lease.Holder, .int .i64 s.Lease.Epoch, .int .i64 s.Lease.Until] 46)).alloc (.cells #[.int .i64 f.Base, .int .i64 f.Last, .slice a2 f.Entries.length k2] 53)).alloc (.cells #[.int .i64 0, .int .i64 0, .slice none 0 0, .slice none 0 0, .int .i64 0, .int .i64 0, .int .i64 0] 46) := ⟨_, rfl⟩
  have E1 : Ext w W1 := by rw [hW1]; exact (((Ext.refl _).alloc _).alloc _).alloc _
  have KX1 : Blk W1 w.heap.size 46 #[.int .i64 s.Index, .int .i64 s.Time, .slice a4 n4 k4, .slice a5 n5 k5, .int .i64 s.Lease.Holder, .int .i64 s.Lease.Epoch, .int .i64 s.Lease.Until] := by rw [hW1]; exact ((Blk.new _ _ _).alloc _).alloc _
  have KF1 : Blk W1 (w.heap.size + 1) 53 #[.int .i64 f.Base, .int .i64 f.Last, .slice a2 f.Entries.length k2] := by rw [hW1]; exact (Blk.new2 _ _ _ _).alloc _
  have KR1 : Blk W1 (w.heap.size + 1 + 1) 46 #[.int .i64 0, .int .i64 0, .slice none 0 0, .slice none 0 0, .int .i64 0, .int .i64 0, .int .i64 0] := by rw [hW1]; exact Blk.new3 _ _ _ _ _
  have hz1' : w.heap.size + 2 < W1.heap.size := by rw [hW1]; simp
  have HW1 := Lib.hid hW1
  clear hW1
  have CX1 := KX1.cell; have FX1 := KX1.frozen; have LX1 := KX1.lt; have CF1 := KF1.cell; have FF1 := KF1.frozen; have LF1 := KF1.lt; have CR1 := KR1.cell; have FR1 := KR1.frozen; have LR1 := KR1.lt
  go_enter Tryz.func43, Tryz.ntmps43
  go_wp2_with fail
  rw [← HW1.out]
  go_wp2_with fail
  refine (feedOk_r (HF.out.ext E1)).mono ?_
  rintro e9 w2 ⟨rfl, hx2⟩
  have E2 := E1.trans hx2
  have hz2 := hx2.size
  have KX2 := KX1.ext hx2; have KF2 := KF1.ext hx2; have KR2 := KR1.ext hx2
  clear CX1 FX1 LX1 CF1 FF1 LF1 CR1 FR1 LR1
  have CX2 := KX2.cell; have FX2 := KX2.frozen; have LX2 := KX2.lt; have CF2 := KF2.cell; have FF2 := KF2.frozen; have LF2 := KF2.lt; have CR2 := KR2.cell; have FR2 := KR2.frozen; have LR2 := KR2.lt
  rw [hyes]
  go_wp2_with fail
  refine (mustBe_yes _).mono ?_
  rintro e9 w3 ⟨rfl, rfl⟩
  obtain ⟨X, hX⟩ : ∃ X, X = w.heap.size := ⟨_, rfl⟩
  have g4 : OwnI B 114 2 w2 (.slice a4 n4 k4) (flPair s.Pairs) := Own.ext h4 E2
  have g5 : OwnI B 138 5 w2 (.slice a5 n5 k5) (flJob s.Jobs) := Own.ext h5 E2
  have HX := Lib.hid hX
  clear hX hyes
  go_wp2_with fail
  go_loopw [13] (fun ii wr => ∃ (k : Nat) (m : DState) (b2 : Option Addr) (q2 o2 : Nat) (b3 : Option Addr) (q3 o3 : Nat), k ≤ f.Entries.length ∧ ii = .int .i64 k ∧ Ext w wr ∧ Blk wr w.heap.size 46 #[.int .i64 m.Index, .int .i64 m.Time, .slice b2 q2 o2, .slice b3 q3 o3, .int .i64 m.Lease.Holder, .int .i64 m.Lease.Epoch, .int .i64 m.Lease.Until] ∧ Blk wr (w.heap.size + 1 + 1) 46 #[.int .i64 0, .int .i64 0, .slice none 0 0, .slice none 0 0, .int .i64 0, .int .i64 0, .int .i64 0] ∧ OwnI B 114 2 wr (.slice b2 q2 o2) (flPair m.Pairs) ∧ OwnI B 138 5 wr (.slice b3 q3 o3) (flJob m.Jobs) ∧ Hid (feedS s (f.Entries.take k) = m) ∧ Hid (stateOk m = true)) (fun ii _ => f.Entries.length - (intOf ii).toNat)
  case atStart => exact ⟨0, s, a4, n4, k4, a5, n5, k5, Nat.zero_le _, rfl, E2, KX2, KR2, g4, g5, Lib.hid rfl, HSO⟩
  case round =>
    obtain ⟨k, m, b2, q2, o2, b3, q3, o3, hk, rfl, he, KX, KR, P0, J0, hf, hmo⟩ := hrel
    clear CX2 FX2 LX2 CF2 FF2 LF2 CR2 FR2 LR2
    have hzr := he.size
    have hRD : RdState wr (.agg #[.int .i64 m.Index, .int .i64 m.Time, .slice b2 q2 o2, .slice b3 q3 o3, .int .i64 m.Lease.Holder, .int .i64 m.Lease.Epoch, .int .i64 m.Lease.Until]) m := ⟨_, _, rfl, P0.ints, J0.ints⟩
    have HRD := Lib.hid hRD
    clear hRD
    have hxl := KX.lt
    by_cases hlt : k < f.Entries.length
    · obtain ⟨d, b1, o1, hd, rfl, hb1, c⟩ := HA.out k hlt
      have d0 := he.cell (c 0 _ (by decide) rfl)
      have d1 := he.cell (c 1 _ (by decide) rfl)
      have d2 := he.cell (c 2 _ (by decide) rfl)
      have d3 := he.cell (c 3 _ (by decide) rfl)
      have d4 := he.cell (c 4 _ (by decide) rfl)
      have d5 := he.cell (c 5 _ (by decide) rfl)
      have d6 := he.cell (c 6 _ (by decide) rfl)
      have d7 := he.cell (c 7 _ (by decide) rfl)
      have d8 := he.cell (c 8 _ (by decide) rfl)
      simp only [Nat.add_zero] at d0
      have HD := Lib.hid hd
      clear c hd
      obtain ⟨w5, hW5⟩ : ∃ w5, w5 = wr.alloc (.cells #[.int .i64 d.Index, .int .i64 d.Time, .int .i64 d.Client, .int .i64 d.Seq, .int .i64 d.Op.Kind, .int .i64 d.Op.A, .int .i64 d.Op.B, .int .i64 d.Op.C, .int .i64 d.Op.D] 94) := ⟨_, rfl⟩
      have X5 : Ext wr w5 := by rw [hW5]; exact (Ext.refl _).alloc _
      have KE5 : Blk w5 wr.heap.size 94 #[.int .i64 d.Index, .int .i64 d.Time, .int .i64 d.Client, .int .i64 d.Seq, .int .i64 d.Op.Kind, .int .i64 d.Op.A, .int .i64 d.Op.B, .int .i64 d.Op.C, .int .i64 d.Op.D] := by rw [hW5]; exact Blk.new _ _ _
      have KX5 := KX.ext X5; have KR5 := KR.ext X5
      have HW5 := Lib.hid hW5
      have hz5 : w5.heap.size = wr.heap.size + 1 := by rw [hW5]; simp
      have HZ5 := Lib.hid hz5
      have hz5' : wr.heap.size < w5.heap.size := by omega
      clear hW5 hz5
      have CX := KX.cell; have LX := KX.lt
      go_wp2_with fail
      rw [← HW5.out]
      clear CX LX d0 d1 d2 d3 d4 d5 d6 d7 d8
      have CX5 := KX5.cell; have FX5 := KX5.frozen; have LX5 := KX5.lt; have CE5 := KE5.cell; have FE5 := KE5.frozen; have LE5 := KE5.lt; have CR5 := KR5.cell; have FR5 := KR5.frozen; have LR5 := KR5.lt
      have hmi := stateOk_parts hmo.out
      refine (nextIn_k (HRD.out.ext X5) d.Index d.Time d.Client d.Seq d.Op.Kind d.Op.A d.Op.B d.Op.C d.Op.D hmi.1 hmi.2.1).mono ?_
      rintro e9 w6 ⟨rfl, hx6⟩
      clear hmi
      have X6 := X5.trans hx6
      have hz6 := hx6.size
      have KX6 := KX5.ext hx6; have KE6 := KE5.ext hx6; have KR6 := KR5.ext hx6
      clear CX5 FX5 LX5 CE5 FE5 LE5 CR5 FR5 LR5
      have CX6 := KX6.cell; have FX6 := KX6.frozen; have LX6 := KX6.lt; have CE6 := KE6.cell; have FE6 := KE6.frozen; have LE6 := KE6.lt; have CR6 := KR6.cell; have FR6 := KR6.frozen; have LR6 := KR6.lt
      have hdd : (⟨d.Index, d.Time, d.Client, d.Seq, ⟨d.Op.Kind, d.Op.A, d.Op.B, d.Op.C, d.Op.D⟩⟩ : DEntry) = d := rfl
      rw [hdd]
      clear hdd
      cases hn : nextIn m d
      · have hnx : feedS s (f.Entries.take (k + 1)) = m := by rw [feedS_next hf.out HD.out, hn]; rfl
        have HNX := Lib.hid hnx
        clear hnx hn
        go_wp2_with fail
        go_roundw
        case rel => exact ⟨k + 1, m, b2, q2, o2, b3, q3, o3, by omega, by go_num, he.trans X6, KX6, KR6, Own.ext P0 X6, Own.ext J0 X6, HNX, hmo⟩
        case measure => simp [intOf]; omega
      have HN := Lib.hid hn
      have hnx : feedS s (f.Entries.take (k + 1)) = stepS m d := by rw [feedS_next hf.out HD.out, hn]; rfl
      have HNX := Lib.hid hnx
      clear hn hnx
      go_wp2_with fail
      refine (applied_k (HRD.out.ext X6) d.Index d.Time d.Client d.Seq d.Op.Kind d.Op.A d.Op.B d.Op.C d.Op.D hmo.out HN.out).mono ?_
      rintro e9 w7 ⟨_, rfl, hx7, u9, rfl, p2, p3, rfl, gp, gj⟩
      obtain ⟨v2, vn2, vc2, rfl⟩ := gp.shape
      obtain ⟨v3, vn3, vc3, rfl⟩ := gj.shape
      have hdd : (⟨d.Index, d.Time, d.Client, d.Seq, ⟨d.Op.Kind, d.Op.A, d.Op.B, d.Op.C, d.Op.D⟩⟩ : DEntry) = d := rfl
      rw [hdd]
      rw [hdd] at gp gj
      clear hdd
      have KX7 := KX6.ext hx7; have KR7 := KR6.ext hx7
      have hz7 := hx7.size
      have E7 := he.trans (X6.trans hx7)
      clear CX6 FX6 LX6 CE6 FE6 LE6 CR6 FR6 LR6
      have CX7 := KX7.cell; have FX7 := KX7.frozen; have LX7 := KX7.lt
      go_wp2_with fail
      go_roundw
      case rel =>
        refine ⟨k + 1, stepS m d, v2, vn2, vc2, v3, vn3, vc3, by omega, by go_num, by repeat' (first | (with_reducible exact Ext.refl _) | (with_reducible assumption) | (with_reducible refine Ext.drewN ?_ _) | (with_reducible refine Ext.drew ?_) | (with_reducible refine Ext.alloc ?_ _) | (with_reducible refine Ext.setCell ?_ ?_ _) | (with_reducible refine Ext.setRow ?_ ?_ _) | (with_reducible exact Nat.le_refl _) | (with_reducible refine Ext.trans ?_ (by assumption)) | omega), KX7.box7 _ _ _ _ _ _ _, KR7.far7 (by omega) _ _ _ _ _ _ _, ?_, ?_, HNX, Lib.hid (stepS_ok hmo.out HN.out)⟩
        · exact (gp.mono (by omega)).box7 KX7 (by decide) _ _ _ _ _ _ _
        · exact (gj.mono (by omega)).box7 KX7 (by decide) _ _ _ _ _ _ _
      case measure => simp [intOf]; omega
    · obtain rfl : k = f.Entries.length := by omega
      have hff := hf.out
      rw [List.take_length] at hff
      have HFF := Lib.hid hff
      clear hff
      have CX := KX.cell; have FX := KX.frozen; have LX := KX.lt; have CR := KR.cell; have FR := KR.frozen; have LR := KR.lt
      go_wp2_with fail
      refine bodyPost_ret (by simp [results, Tryz.results43, go_sem, CR, FR, LR]; try rfl) rfl ?_
      refine ⟨_, rfl, by repeat' (first | (with_reducible exact Ext.refl _) | (with_reducible assumption) | (with_reducible refine Ext.drewN ?_ _) | (with_reducible refine Ext.drew ?_) | (with_reducible refine Ext.alloc ?_ _) | (with_reducible refine Ext.setCell ?_ ?_ _) | (with_reducible refine Ext.setRow ?_ ?_ _) | (with_reducible exact Nat.le_refl _) | (with_reducible refine Ext.trans ?_ (by assumption)) | omega), ?_⟩
      rw [HFF.out]
      exact ⟨_, _, rfl, P0.box7 KR (by decide) _ _ _ _ _ _ _, J0.box7 KR (by decide) _ _ _ _ _ _ _⟩

end Go.Proofs.YtemfcogdjmjplaaGreat

-- Stores put together.
set_option linter.unusedSimpArgs false
set_option linter.unusedVariables false
namespace Go.Proofs.YtemfcogdjmjplaaGreat
open Go.RowKit Go.G8

theorem OwStore.of {B : Nat} {w : World} {t0 t1 t4 t5 : Value} {d : DDisk} {i t : Int} {p : List DPair} {j : List DJob} {a b c num last busy : Int} (h : IsDisk B w (.agg #[t0, t1]) d) (h4 : OwnI B 114 2 w t4 (flPair p)) (h5 : OwnI B 138 5 w t5 (flJob j)) :
    ∃ F, OwStore B w (.agg #[t0, t1, .int .i64 i, .int .i64 t, t4, t5, .int .i64 a, .int .i64 b, .int .i64 c, .int .i64 num, .int .i64 last, .int .i64 busy]) ⟨d, ⟨i, t, p, j, ⟨a, b, c⟩⟩, num, last, busy⟩ F := by
  obtain ⟨u0, u1, s0, s1, e, g0, g1, gd⟩ := h
  injection e with e
  injection e with e
  injection e with e0 e
  injection e with e1 e
  subst e0; subst e1
  exact ⟨_, _, _, _, _, s0, s1, rfl, g0, g1, h4, h5, gd, rfl⟩
end Go.Proofs.YtemfcogdjmjplaaGreat

-- A feed heard: the program.
set_option linter.unusedSimpArgs false
set_option linter.unusedVariables false
namespace Go.Proofs.YtemfcogdjmjplaaGreat
open Go.RowKit Go.G8

end Go.Proofs.YtemfcogdjmjplaaGreat
namespace Go.G8
open Go.RowKit
open Go.Proofs.YtemfcogdjmjplaaGreat
/-- What HeardFeed hands back. -/
noncomputable def hfD (s : DStore) (f : DFeed) : DStore := if storeOk s then (if feedOk f then ⟨s.Disk, feedS s.State f.Entries, s.Num, s.Last, s.Busy⟩ else s) else ⟨⟨[], []⟩, ⟨0, 0, [], [], ⟨0, 0, 0⟩⟩, 0, 0, 0⟩
end Go.G8
namespace Go.Proofs.YtemfcogdjmjplaaGreat
open Go.RowKit Go.G8
theorem OwStore.isDisk {B : Nat} {w : World} {s : DStore} {F : List Nat} {t0 t1 t4 t5 x2 x3 x6 x7 x8 x9 x10 x11 : Value} (h : OwStore B w (.agg #[t0, t1, x2, x3, t4, t5, x6, x7, x8, x9, x10, x11]) s F) : IsDisk B w (.agg #[t0, t1]) s.Disk ∧ OwnI B 114 2 w t4 (flPair s.State.Pairs) ∧ OwnI B 138 5 w t5 (flJob s.State.Jobs) := by
  obtain ⟨u0, u1, u4, u5, s0, s1, e, h0, h1, h4, h5, hd, _⟩ := h
  injection e with e
  injection e with e
  injection e with e0 e
  injection e with e1 e
  injection e with _ e
  injection e with _ e
  injection e with e4 e
  injection e with e5 e
  subst e0; subst e1; subst e4; subst e5
  exact ⟨⟨_, _, s0, s1, rfl, h0, h1, hd⟩, h4, h5⟩
theorem heard1_pan (pv : Value) (ty : TypeId) (w : World) : CallsD Tryz.prog 42 #[] (.panicking ({ v := .iface ty pv, recovered := false } :: [])) w fun e u' w' => e = .returned (.tuple #[]) ∧ u' = .panicking ({ v := .iface ty pv, recovered := true } :: []) ∧ w' = w := by
  refine callsD_of_wpS Tryz.func42 rfl fun c₀ cs hu => ?_
  apply wpS_region
  cases c₀
  simp_all [wpOpsS, go_sem, recoverD, Tryz.ntmps42, bodyPostS, results, Tryz.results42]
theorem heard1_idle (w : World) : CallsD Tryz.prog 42 #[] .returning w fun e u' w' => e = .returned (.tuple #[]) ∧ u' = .returning ∧ w' = w := by
  refine callsD_of_wpS Tryz.func42 rfl fun c₀ cs hu => ?_
  apply wpS_region
  cases c₀
  simp_all [wpOpsS, go_sem, recoverD, Tryz.ntmps42, bodyPostS, results, Tryz.results42]
set_option maxHeartbeats 4000000 in
set_option maxRecDepth 100000 in
theorem heardFeed_k {w : World} {v u : Value} {s : DStore} {f : DFeed} (h : RdStore w v s) (hf : RdFeed w u f) : Calls Tryz.prog 12 #[v, u] w (Ret w fun r w' => ∃ F, OwStore w.heap.size w' r (hfD s f) F) := by
  have hmf : ∀ (fn : Fn) (first cap : Array Value) (w : World), (Instr.makeFunc fn first cap).run Tryz.prog w = .ok (.func fn first cap) w := fun _ _ _ _ => rfl
  have HS := Lib.hid h
  have HF := Lib.hid hf
  obtain ⟨a0, n0, k0, a1, n1, k1, a4, n4, k4, a5, n5, k5, rfl⟩ := h.shape
  obtain ⟨t2, rfl, h2⟩ := hf
  obtain ⟨a2, n2, k2, rfl⟩ := h2.shape
  clear h h2
  obtain ⟨W1, hW1⟩ : ∃ W1, W1 = ((w.alloc (.cells #[.slice a0 n0 k0, .slice a1 n1 k1, .int .i64 s.State.Index, .int .i64 s.State.Time, .slice a4 n4 k4, .slice a5 n5 k5, .int .i64 s.State.Lease.Holder, .int .i64 s.State.Lease.Epoch, .int .i64 s.State.Lease.Until, .int .i64 s.Num, .int .i64 s.Last, .int .i64 s.Busy] 48)).alloc (.cells #[.int .i64 f.Base, .int .i64 f.Last, .slice a2 n2 k2] 53)).alloc (.cells #[.slice none 0 0, .slice none 0 0, .int .i64 0, .int .i64 0, .slice none 0 0, .slice none 0 0, .int .i64 0, .int .i64 0, .int .i64 0, .int .i64 0, .int .i64 0, .int .i64 0] 48) := ⟨_, rfl⟩
  have E1 : Ext w W1 := by rw [hW1]; exact (((Ext.refl _).alloc _).alloc _).alloc _
  have KS1 : Blk W1 w.heap.size 48 #[.slice a0 n0 k0, .slice a1 n1 k1, .int .i64 s.State.Index, .int .i64 s.State.Time, .slice a4 n4 k4, .slice a5 n5 k5, .int .i64 s.State.Lease.Holder, .int .i64 s.State.Lease.Epoch, .int .i64 s.State.Lease.Until, .int .i64 s.Num, .int .i64 s.Last, .int .i64 s.Busy] := by rw [hW1]; exact ((Blk.new _ _ _).alloc _).alloc _
  have KF1 : Blk W1 (w.heap.size + 1) 53 #[.int .i64 f.Base, .int .i64 f.Last, .slice a2 n2 k2] := by rw [hW1]; exact (Blk.new2 _ _ _ _).alloc _
  have KR1 : Blk W1 (w.heap.size + 1 + 1) 48 #[.slice none 0 0, .slice none 0 0, .int .i64 0, .int .i64 0, .slice none 0 0, .slice none 0 0, .int .i64 0, .int .i64 0, .int .i64 0, .int .i64 0, .int .i64 0, .int .i64 0] := by rw [hW1]; exact Blk.new3 _ _ _ _ _
  have hz1 : w.heap.size + 2 < W1.heap.size := by rw [hW1]; simp
  have HW1 := Lib.hid hW1
  clear hW1
  have CS1 := KS1.cell; have FS1 := KS1.frozen; have LS1 := KS1.lt; have CF1 := KF1.cell; have FF1 := KF1.frozen; have LF1 := KF1.lt; have CR1 := KR1.cell; have FR1 := KR1.frozen; have LR1 := KR1.lt
  go_enter_defers Tryz.func12, Tryz.ntmps12
  go_wp2_with fail
  rw [← HW1.out]
  go_wp2_with fail
  refine (storeOk_r (HS.out.ext E1)).mono ?_
  rintro e9 w2 ⟨rfl, hx2⟩
  have E2 := E1.trans hx2
  have hz2 := hx2.size
  have KS2 := KS1.ext hx2; have KF2 := KF1.ext hx2; have KR2 := KR1.ext hx2
  clear CS1 FS1 LS1 CF1 FF1 LF1 CR1 FR1 LR1
  have CS2 := KS2.cell; have FS2 := KS2.frozen; have LS2 := KS2.lt; have CF2 := KF2.cell; have FF2 := KF2.frozen; have LF2 := KF2.lt; have CR2 := KR2.cell; have FR2 := KR2.frozen; have LR2 := KR2.lt
  cases hso : storeOk s
  · have HM := Lib.hid (show hfD s f = ⟨⟨[], []⟩, ⟨0, 0, [], [], ⟨0, 0, 0⟩⟩, 0, 0, 0⟩ from by simp [hfD, hso])
    go_wp2_with fail
    refine ⟨_, by simp [results, Tryz.results12, go_sem, CR2, FR2, LR2]; try rfl, ?_⟩
    refine ⟨_, rfl, by repeat' (first | (with_reducible exact Ext.refl _) | (with_reducible assumption) | (with_reducible refine Ext.drewN ?_ _) | (with_reducible refine Ext.drew ?_) | (with_reducible refine Ext.alloc ?_ _) | (with_reducible refine Ext.setCell ?_ ?_ _) | (with_reducible refine Ext.setRow ?_ ?_ _) | (with_reducible exact Nat.le_refl _) | (with_reducible refine Ext.trans ?_ (by assumption)) | omega), ?_⟩
    rw [HM.out]
    exact OwStore.of (IsDisk.nil _ _) (OwnI.nil _ _ _ _) (OwnI.nil _ _ _ _)

  have HSO := Lib.hid hso
  clear hso
  go_wp2_with fail
  refine (copyStore_k (HS.out.ext E2) (diskOk_small (storeOk_disk HSO.out)) (stateOk_small (storeOk_state HSO.out))).mono ?_
  rintro e9 w3 ⟨_, rfl, hx3, F3, g3⟩
  obtain ⟨b0, m0, j0, b1, m1, j1, b4, m4, j4, b5, m5, j5, rfl⟩ := g3.rd.shape
  obtain ⟨gd3, gp3, gj3⟩ := g3.isDisk
  have hz3 := hx3.size
  have E3 := E2.trans hx3
  have KS3 := KS2.ext hx3; have KF3 := KF2.ext hx3; have KR3 := KR2.ext hx3
  clear CS2 FS2 LS2 CF2 FF2 LF2 CR2 FR2 LR2
  have CF3 := KF3.cell; have FF3 := KF3.frozen; have LF3 := KF3.lt; have CR3 := KR3.cell; have FR3 := KR3.frozen; have LR3 := KR3.lt
  go_wp2_with fail
  have hR : w.heap.size + 1 + 1 < w2.heap.size := by omega
  have hRw : w.heap.size ≤ w.heap.size + 1 + 1 := by omega
  obtain ⟨w4, hW4⟩ : ∃ w4, w4 = ((((((((((((w3.setCell ⟨w.heap.size + 1 + 1, 0, none⟩ (.slice b0 m0 j0)).setCell ⟨w.heap.size + 1 + 1, 1, none⟩ (.slice b1 m1 j1)).setCell ⟨w.heap.size + 1 + 1, 2, none⟩ (.int .i64 s.State.Index)).setCell ⟨w.heap.size + 1 + 1, 3, none⟩ (.int .i64 s.State.Time)).setCell ⟨w.heap.size + 1 + 1, 4, none⟩ (.slice b4 m4 j4)).setCell ⟨w.heap.size + 1 + 1, 5, none⟩ (.slice b5 m5 j5)).setCell ⟨w.heap.size + 1 + 1, 6, none⟩ (.int .i64 s.State.Lease.Holder)).setCell ⟨w.heap.size + 1 + 1, 7, none⟩ (.int .i64 s.State.Lease.Epoch)).setCell ⟨w.heap.size + 1 + 1, 8, none⟩ (.int .i64 s.State.Lease.Until)).setCell ⟨w.heap.size + 1 + 1, 9, none⟩ (.int .i64 s.Num)).setCell ⟨w.heap.size + 1 + 1, 10, none⟩ (.int .i64 s.Last)).setCell ⟨w.heap.size + 1 + 1, 11, none⟩ (.int .i64 s.Busy)) := ⟨_, rfl⟩
  rw [← hW4]
  have E4 : Ext w w4 := by rw [hW4]; exact ((((((((((((E3.setCell hRw _).setCell hRw _).setCell hRw _).setCell hRw _).setCell hRw _).setCell hRw _).setCell hRw _).setCell hRw _).setCell hRw _).setCell hRw _).setCell hRw _).setCell hRw _)
  have CH4 : Chg w2.heap.size w3 w4 := by rw [hW4]; exact (((((((((((((Chg.refl _ _).setLow hR _).setLow hR _).setLow hR _).setLow hR _).setLow hR _).setLow hR _).setLow hR _).setLow hR _).setLow hR _).setLow hR _).setLow hR _).setLow hR _)
  have KR4 : Blk w4 (w.heap.size + 1 + 1) 48 #[.slice b0 m0 j0, .slice b1 m1 j1, .int .i64 s.State.Index, .int .i64 s.State.Time, .slice b4 m4 j4, .slice b5 m5 j5, .int .i64 s.State.Lease.Holder, .int .i64 s.State.Lease.Epoch, .int .i64 s.State.Lease.Until, .int .i64 s.Num, .int .i64 s.Last, .int .i64 s.Busy] := by rw [hW4]; have := ((((((((((((KR3.set_ 0 (.slice b0 m0 j0)).set_ 1 (.slice b1 m1 j1)).set_ 2 (.int .i64 s.State.Index)).set_ 3 (.int .i64 s.State.Time)).set_ 4 (.slice b4 m4 j4)).set_ 5 (.slice b5 m5 j5)).set_ 6 (.int .i64 s.State.Lease.Holder)).set_ 7 (.int .i64 s.State.Lease.Epoch)).set_ 8 (.int .i64 s.State.Lease.Until)).set_ 9 (.int .i64 s.Num)).set_ 10 (.int .i64 s.Last)).set_ 11 (.int .i64 s.Busy)); simpa using this
  have hz4 := CH4.size
  clear hW4 CF3 FF3 LF3 CR3 FR3 LR3
  have gs4 : IsState w2.heap.size w4 (.agg #[.int .i64 s.State.Index, .int .i64 s.State.Time, .slice b4 m4 j4, .slice b5 m5 j5, .int .i64 s.State.Lease.Holder, .int .i64 s.State.Lease.Epoch, .int .i64 s.State.Lease.Until]) s.State := ⟨_, _, rfl, gp3.keep CH4, gj3.keep CH4⟩
  cases hfo : feedOk f
  · have HM := Lib.hid (show hfD s f = s from by simp [hfD, HSO.out, hfo])
    have hmm : s = ⟨s.Disk, ⟨s.State.Index, s.State.Time, s.State.Pairs, s.State.Jobs, ⟨s.State.Lease.Holder, s.State.Lease.Epoch, s.State.Lease.Until⟩⟩, s.Num, s.Last, s.Busy⟩ := rfl
    refine (followed_no gs4 (by omega) (HF.out.ext E4) (storeOk_state HSO.out) hfo).mono ?_
    rintro e9 w5 ⟨⟨x, rfl⟩, hx5⟩
    have KR5 := KR4.ext hx5
    have E5 := E4.trans hx5
    have CH5 := CH4.ext hx5
    have CR5 := KR5.cell; have FR5 := KR5.frozen; have LR5 := KR5.lt
    clear hfo hmm
    go_wp2_with fail
    refine leaves_cons (f := 42) (args := #[]) (by simp) (by simp [go_sem]) ?_
    refine (heard1_pan x 9 _).mono ?_
    rintro e8 u8 w8 ⟨rfl, rfl, rfl⟩
    refine ⟨_, by simp [results, Tryz.results12, go_sem, CR5, FR5, LR5]; try rfl, ?_⟩
    refine ⟨_, rfl, by repeat' (first | (with_reducible exact Ext.refl _) | (with_reducible assumption) | (with_reducible refine Ext.drewN ?_ _) | (with_reducible refine Ext.drew ?_) | (with_reducible refine Ext.alloc ?_ _) | (with_reducible refine Ext.setCell ?_ ?_ _) | (with_reducible refine Ext.setRow ?_ ?_ _) | (with_reducible exact Nat.le_refl _) | (with_reducible refine Ext.trans ?_ (by assumption)) | omega), ?_⟩
    rw [HM.out]
    exact ⟨F3, (OwStore.keep g3 CH5).mono (by omega)⟩

  have HM := Lib.hid (show hfD s f = ⟨s.Disk, feedS s.State f.Entries, s.Num, s.Last, s.Busy⟩ from by simp [hfD, HSO.out, hfo])
  refine (followed_yes gs4 (by omega) (HF.out.ext E4) (storeOk_state HSO.out) hfo).mono ?_
  rintro e9 w5 ⟨_, rfl, hx5, p2, p3, rfl, gp, gj⟩
  obtain ⟨v2, vn2, vc2, rfl⟩ := gp.shape
  obtain ⟨v3, vn3, vc3, rfl⟩ := gj.shape
  have KR5 := KR4.ext hx5
  have E5 := E4.trans hx5
  have CH5 := CH4.ext hx5
  have hz5 := hx5.size
  have CR5 := KR5.cell; have FR5 := KR5.frozen; have LR5 := KR5.lt
  clear hfo
  go_upto_region 6 with (fail)
  obtain ⟨w6, hW6⟩ : ∃ w6, w6 = (((((((w5.setCell ⟨w.heap.size + 1 + 1, 2, none⟩ (.int .i64 (feedS s.State f.Entries).Index)).setCell ⟨w.heap.size + 1 + 1, 3, none⟩ (.int .i64 (feedS s.State f.Entries).Time)).setCell ⟨w.heap.size + 1 + 1, 4, none⟩ (.slice v2 vn2 vc2)).setCell ⟨w.heap.size + 1 + 1, 5, none⟩ (.slice v3 vn3 vc3)).setCell ⟨w.heap.size + 1 + 1, 6, none⟩ (.int .i64 (feedS s.State f.Entries).Lease.Holder)).setCell ⟨w.heap.size + 1 + 1, 7, none⟩ (.int .i64 (feedS s.State f.Entries).Lease.Epoch)).setCell ⟨w.heap.size + 1 + 1, 8, none⟩ (.int .i64 (feedS s.State f.Entries).Lease.Until)) := ⟨_, rfl⟩
  rw [← hW6]
  have hR5 : w.heap.size + 1 + 1 < w2.heap.size := hR
  have E6 : Ext w w6 := by rw [hW6]; exact (((((((E5.setCell hRw _).setCell hRw _).setCell hRw _).setCell hRw _).setCell hRw _).setCell hRw _).setCell hRw _)
  have CH6 : Chg w2.heap.size w3 w6 := by rw [hW6]; exact (((((((CH5.setLow hR _).setLow hR _).setLow hR _).setLow hR _).setLow hR _).setLow hR _).setLow hR _)
  have KR6 : Blk w6 (w.heap.size + 1 + 1) 48 #[.slice b0 m0 j0, .slice b1 m1 j1, .int .i64 (feedS s.State f.Entries).Index, .int .i64 (feedS s.State f.Entries).Time, .slice v2 vn2 vc2, .slice v3 vn3 vc3, .int .i64 (feedS s.State f.Entries).Lease.Holder, .int .i64 (feedS s.State f.Entries).Lease.Epoch, .int .i64 (feedS s.State f.Entries).Lease.Until, .int .i64 s.Num, .int .i64 s.Last, .int .i64 s.Busy] := by rw [hW6]; have := (((((((KR5.set_ 2 (.int .i64 (feedS s.State f.Entries).Index)).set_ 3 (.int .i64 (feedS s.State f.Entries).Time)).set_ 4 (.slice v2 vn2 vc2)).set_ 5 (.slice v3 vn3 vc3)).set_ 6 (.int .i64 (feedS s.State f.Entries).Lease.Holder)).set_ 7 (.int .i64 (feedS s.State f.Entries).Lease.Epoch)).set_ 8 (.int .i64 (feedS s.State f.Entries).Lease.Until)); simpa using this
  have gp6 : OwnI w2.heap.size 114 2 w6 (.slice v2 vn2 vc2) (flPair (feedS s.State f.Entries).Pairs) := by rw [hW6]; exact OwnI.keep gp ((((((((Chg.refl _ _).setLow hR _).setLow hR _).setLow hR _).setLow hR _).setLow hR _).setLow hR _).setLow hR _)
  have gj6 : OwnI w2.heap.size 138 5 w6 (.slice v3 vn3 vc3) (flJob (feedS s.State f.Entries).Jobs) := by rw [hW6]; exact OwnI.keep gj ((((((((Chg.refl _ _).setLow hR _).setLow hR _).setLow hR _).setLow hR _).setLow hR _).setLow hR _).setLow hR _)
  have gd6 := gd3.keep CH6
  clear hW6 CR5 FR5 LR5
  have CR6 := KR6.cell; have FR6 := KR6.frozen; have LR6 := KR6.lt
  go_wp2_with fail
  refine leaves_cons (f := 42) (args := #[]) (by simp) (by simp [go_sem]) ?_
  refine (heard1_idle _).mono ?_
  rintro e8 u8 w8 ⟨rfl, rfl, rfl⟩
  refine ⟨_, by simp [results, Tryz.results12, go_sem, CR6, FR6, LR6]; try rfl, ?_⟩
  refine ⟨_, rfl, by repeat' (first | (with_reducible exact Ext.refl _) | (with_reducible assumption) | (with_reducible refine Ext.drewN ?_ _) | (with_reducible refine Ext.drew ?_) | (with_reducible refine Ext.alloc ?_ _) | (with_reducible refine Ext.setCell ?_ ?_ _) | (with_reducible refine Ext.setRow ?_ ?_ _) | (with_reducible exact Nat.le_refl _) | (with_reducible refine Ext.trans ?_ (by assumption)) | omega), ?_⟩
  rw [HM.out]
  exact OwStore.of ((gd6.keep (by repeat' (first | (with_reducible exact Chg.refl _ _) | (with_reducible refine Chg.drewN ?_ _) | (with_reducible refine Chg.drew ?_) | (with_reducible refine Chg.alloc ?_ _) | (with_reducible refine Chg.setLow ?_ (by omega) _) | (with_reducible refine Chg.setNew ?_ (by omega) _) | (with_reducible refine Chg.setRow ?_ (by omega) _) | (with_reducible refine Chg.ext ?_ (by assumption)) | omega))).mono (by omega)) ((gp6.keep (by repeat' (first | (with_reducible exact Chg.refl _ _) | (with_reducible refine Chg.drewN ?_ _) | (with_reducible refine Chg.drew ?_) | (with_reducible refine Chg.alloc ?_ _) | (with_reducible refine Chg.setLow ?_ (by omega) _) | (with_reducible refine Chg.setNew ?_ (by omega) _) | (with_reducible refine Chg.setRow ?_ (by omega) _) | (with_reducible refine Chg.ext ?_ (by assumption)) | omega))).mono (by omega)) ((gj6.keep (by repeat' (first | (with_reducible exact Chg.refl _ _) | (with_reducible refine Chg.drewN ?_ _) | (with_reducible refine Chg.drew ?_) | (with_reducible refine Chg.alloc ?_ _) | (with_reducible refine Chg.setLow ?_ (by omega) _) | (with_reducible refine Chg.setNew ?_ (by omega) _) | (with_reducible refine Chg.setRow ?_ (by omega) _) | (with_reducible refine Chg.ext ?_ (by assumption)) | omega))).mono (by omega))


end Go.Proofs.YtemfcogdjmjplaaGreat

-- Feeds: right or not (the reference).
set_option linter.unusedSimpArgs false
set_option linter.unusedVariables false
namespace Go.Proofs.YtemfcogdjmjplaaGreat
open Go.RowKit Go.G8

set_option maxHeartbeats 4000000 in
set_option maxRecDepth 100000 in
theorem sFeedOk_r {w : World} {v : Value} {f : DFeed} (h : RdFeed w v f) : Calls Tryz.prog 36 #[v] w (RetV w (.bool (feedOk f))) := by
  obtain ⟨t2, rfl, h2⟩ := h
  have HL := Lib.hid h2
  obtain ⟨a2, k2, rfl, hcap, hm, ha⟩ := h2.recs (f := DEntry.ints) (fun _ => rfl) (by decide)
  have HA := Lib.hid ha
  clear ha h2
  unfold maxLen at hm
  obtain ⟨L, hL⟩ : ∃ L, L = f.Entries.length := ⟨_, rfl⟩
  rw [← hL] at HL hcap ⊢
  have HLL := Lib.hid hL
  clear hL
  obtain ⟨W1, hW1⟩ : ∃ W1, W1 = w.alloc (.cells #[.int .i64 f.Base, .int .i64 f.Last, .slice a2 L k2] 53) := ⟨_, rfl⟩
  have E1 : Ext w W1 := by rw [hW1]; exact (Ext.refl _).alloc _
  have KF1 : Blk W1 w.heap.size 53 #[.int .i64 f.Base, .int .i64 f.Last, .slice a2 L k2] := by rw [hW1]; exact Blk.new _ _ _
  have HW1 := Lib.hid hW1
  clear hW1
  have C1 := KF1.cell; have L1 := KF1.lt
  go_enter Tryz.func36, Tryz.ntmps36
  go_wp2_with fail
  rw [← HW1.out]
  go_wp2_with fail
  refine (l1In_c _ f.Last 0 2000).mono ?_
  rintro e9 w1 ⟨rfl, rfl⟩
  cases hb : inb f.Last 0 2000
  · have hno : feedOk f = false := by
      cases hq : feedOk f
      · rfl
      · simp only [feedOk, Bool.and_eq_true, decide_eq_true_eq] at hq
        have h1 := inb_true.1 hq.1
        rw [inb_of (by omega) hq.2.1] at hb
        cases hb
    have HE := Lib.hid (show feedOk f = false from by exact hno)
    go_wp2_with fail
    go_ret
    exact ⟨by (rw [HE.out]; try rfl), E1⟩

  have hb2 := (inb_true.1 hb).2
  go_wp2_with fail
  refine (l1In_c _ f.Base 0 f.Last).mono ?_
  rintro e9 w1 ⟨rfl, rfl⟩
  cases hc : inb f.Base 0 f.Last
  · have HE := Lib.hid (show feedOk f = false from by simp [feedOk, hc])
    go_wp2_with fail
    go_ret
    exact ⟨by (rw [HE.out]; try rfl), E1⟩

  have HC9 := Lib.hid hc
  clear hc hb
  by_cases hn : L ≤ 3
  rotate_left
  · have HE := Lib.hid (show feedOk f = false from by rw [HLL.out] at hn; simp [feedOk, hn])
    go_wp2_with fail
    go_ret
    exact ⟨by (rw [HE.out]; try rfl), E1⟩

  go_wp2_with fail
  refine (sEntriesOk_c _ _ f.Entries (HL.out.ext E1)).mono ?_
  rintro e9 w2 ⟨rfl, hx2⟩
  have E2 := E1.trans hx2
  have KF2 := KF1.ext hx2
  clear C1 L1
  cases he : entriesOk f.Entries
  · have C2 := KF2.cell; have L2 := KF2.lt
    have HE := Lib.hid (show feedOk f = false from by simp [feedOk, he])
    go_wp2_with fail
    go_ret
    exact ⟨by (rw [HE.out]; try rfl), E2⟩

  have HEO := Lib.hid he
  clear he
  have HALL : Hid (feedOk f = f.Entries.all (fun e => decide (f.Base < e.Index) && decide (e.Index ≤ f.Last))) := Lib.hid (by rw [HLL.out] at hn; simp [feedOk, HC9.out, hb2, hn, HEO.out])
  have HLM : Hid (f.Entries.length = L) := Lib.hid HLL.out.symm
  rcases Nat.eq_zero_or_pos L with h0 | h0
  · have hnil : f.Entries = [] := List.length_eq_zero_iff.1 (HLM.out.trans h0)
    have HNIL := Lib.hid hnil
    subst h0
    clear hnil
    have C2 := KF2.cell; have L2 := KF2.lt
    have HE := Lib.hid (show feedOk f = true from by rw [HALL.out, HNIL.out]; rfl)
    go_wp2_with fail
    go_quiet (fail)
    go_wp2_with fail
    go_ret
    exact ⟨by (rw [HE.out]; try rfl), by repeat' (first | (with_reducible exact Ext.refl _) | (with_reducible assumption) | (with_reducible refine Ext.drewN ?_ _) | (with_reducible refine Ext.drew ?_) | (with_reducible refine Ext.alloc ?_ _) | (with_reducible refine Ext.setCell ?_ ?_ _) | (with_reducible refine Ext.setRow ?_ ?_ _) | (with_reducible exact Nat.le_refl _) | (with_reducible refine Ext.trans ?_ (by assumption)) | omega)⟩

  obtain ⟨m, rfl⟩ : ∃ m, L = m + 1 := ⟨L - 1, by omega⟩
  obtain ⟨d, b1, o1, hd, rfl, hb1, c⟩ := HA.out 0 (by have := HLM.out; omega)
  have d0 := E2.cell (c 0 _ (by decide) rfl)
  obtain ⟨e, b2, o2, hde, hbo, _, c'⟩ := HA.out m (by have := HLM.out; omega)
  obtain ⟨rfl, rfl⟩ : b1 = b2 ∧ o1 = o2 := by simpa using hbo
  have e0 := E2.cell (c' 0 _ (by decide) rfl)
  simp only [Nat.add_zero, Nat.zero_mul] at d0 e0
  have HEND := Lib.hid (feed_ends HEO.out hd (by rw [HLM.out]; exact hde))
  have HD := Lib.hid hd; have HE9 := Lib.hid hde
  clear c c' hd hde hbo h0
  have C2 := KF2.cell; have L2 := KF2.lt
  have hm3 : m = 0 ∨ m = 1 ∨ m = 2 := by omega
  rcases hm3 with hm3 | hm3 | hm3
  · subst hm3
    obtain rfl : d = e := by have h1 := HD.out; rw [HE9.out] at h1; exact (Option.some.inj h1).symm
    clear e0
    by_cases q1 : f.Base < d.Index
    · have p1 : decide (f.Base < d.Index) = true := decide_eq_true q1
      by_cases q2 : d.Index ≤ f.Last
      · have p2 : decide (d.Index ≤ f.Last) = true := decide_eq_true q2
        have HE := Lib.hid (show feedOk f = true from by rw [HALL.out, HEND.out, p1, p2]; rfl)
        go_wp2_with fail
        go_quiet (fail)
        go_wp2_with fail
        go_ret
        exact ⟨by (rw [HE.out]; try rfl), by repeat' (first | (with_reducible exact Ext.refl _) | (with_reducible assumption) | (with_reducible refine Ext.drewN ?_ _) | (with_reducible refine Ext.drew ?_) | (with_reducible refine Ext.alloc ?_ _) | (with_reducible refine Ext.setCell ?_ ?_ _) | (with_reducible refine Ext.setRow ?_ ?_ _) | (with_reducible exact Nat.le_refl _) | (with_reducible refine Ext.trans ?_ (by assumption)) | omega)⟩

      · have p2 : decide (d.Index ≤ f.Last) = false := decide_eq_false q2
        have P2 := Lib.hid p2
        have HE := Lib.hid (show feedOk f = false from by rw [HALL.out, HEND.out, p1, p2]; rfl)
        go_wp2_with fail
        go_quiet (fail)
        go_wp2_with fail
        go_ret
        exact ⟨by (rw [HE.out]; first | rfl | exact congrArg (fun z => Ending.returned (Value.bool z)) P2.out), by repeat' (first | (with_reducible exact Ext.refl _) | (with_reducible assumption) | (with_reducible refine Ext.drewN ?_ _) | (with_reducible refine Ext.drew ?_) | (with_reducible refine Ext.alloc ?_ _) | (with_reducible refine Ext.setCell ?_ ?_ _) | (with_reducible refine Ext.setRow ?_ ?_ _) | (with_reducible exact Nat.le_refl _) | (with_reducible refine Ext.trans ?_ (by assumption)) | omega)⟩

    · have p1 : decide (f.Base < d.Index) = false := decide_eq_false q1
      have HE := Lib.hid (show feedOk f = false from by rw [HALL.out, HEND.out, p1]; rfl)
      go_wp2_with fail
      go_quiet (fail)
      go_wp2_with fail
      go_ret
      exact ⟨by (rw [HE.out]; try rfl), by repeat' (first | (with_reducible exact Ext.refl _) | (with_reducible assumption) | (with_reducible refine Ext.drewN ?_ _) | (with_reducible refine Ext.drew ?_) | (with_reducible refine Ext.alloc ?_ _) | (with_reducible refine Ext.setCell ?_ ?_ _) | (with_reducible refine Ext.setRow ?_ ?_ _) | (with_reducible exact Nat.le_refl _) | (with_reducible refine Ext.trans ?_ (by assumption)) | omega)⟩

  · subst hm3
    simp only [Nat.one_mul] at e0
    by_cases q1 : f.Base < d.Index
    · have p1 : decide (f.Base < d.Index) = true := decide_eq_true q1
      by_cases q2 : e.Index ≤ f.Last
      · have p2 : decide (e.Index ≤ f.Last) = true := decide_eq_true q2
        have HE := Lib.hid (show feedOk f = true from by rw [HALL.out, HEND.out, p1, p2]; rfl)
        go_wp2_with fail
        go_quiet (fail)
        go_wp2_with fail
        go_ret
        exact ⟨by (rw [HE.out]; try rfl), by repeat' (first | (with_reducible exact Ext.refl _) | (with_reducible assumption) | (with_reducible refine Ext.drewN ?_ _) | (with_reducible refine Ext.drew ?_) | (with_reducible refine Ext.alloc ?_ _) | (with_reducible refine Ext.setCell ?_ ?_ _) | (with_reducible refine Ext.setRow ?_ ?_ _) | (with_reducible exact Nat.le_refl _) | (with_reducible refine Ext.trans ?_ (by assumption)) | omega)⟩

      · have p2 : decide (e.Index ≤ f.Last) = false := decide_eq_false q2
        have P2 := Lib.hid p2
        have HE := Lib.hid (show feedOk f = false from by rw [HALL.out, HEND.out, p1, p2]; rfl)
        go_wp2_with fail
        go_quiet (fail)
        go_wp2_with fail
        go_ret
        exact ⟨by (rw [HE.out]; first | rfl | exact congrArg (fun z => Ending.returned (Value.bool z)) P2.out), by repeat' (first | (with_reducible exact Ext.refl _) | (with_reducible assumption) | (with_reducible refine Ext.drewN ?_ _) | (with_reducible refine Ext.drew ?_) | (with_reducible refine Ext.alloc ?_ _) | (with_reducible refine Ext.setCell ?_ ?_ _) | (with_reducible refine Ext.setRow ?_ ?_ _) | (with_reducible exact Nat.le_refl _) | (with_reducible refine Ext.trans ?_ (by assumption)) | omega)⟩

    · have p1 : decide (f.Base < d.Index) = false := decide_eq_false q1
      have HE := Lib.hid (show feedOk f = false from by rw [HALL.out, HEND.out, p1]; rfl)
      go_wp2_with fail
      go_quiet (fail)
      go_wp2_with fail
      go_ret
      exact ⟨by (rw [HE.out]; try rfl), by repeat' (first | (with_reducible exact Ext.refl _) | (with_reducible assumption) | (with_reducible refine Ext.drewN ?_ _) | (with_reducible refine Ext.drew ?_) | (with_reducible refine Ext.alloc ?_ _) | (with_reducible refine Ext.setCell ?_ ?_ _) | (with_reducible refine Ext.setRow ?_ ?_ _) | (with_reducible exact Nat.le_refl _) | (with_reducible refine Ext.trans ?_ (by assumption)) | omega)⟩

  · subst hm3
    simp only [Nat.reduceMul] at e0
    by_cases q1 : f.Base < d.Index
    · have p1 : decide (f.Base < d.Index) = true := decide_eq_true q1
      by_cases q2 : e.Index ≤ f.Last
      · have p2 : decide (e.Index ≤ f.Last) = true := decide_eq_true q2
        have HE := Lib.hid (show feedOk f = true from by rw [HALL.out, HEND.out, p1, p2]; rfl)
        go_wp2_with fail
        go_quiet (fail)
        go_wp2_with fail
        go_ret
        exact ⟨by (rw [HE.out]; try rfl), by repeat' (first | (with_reducible exact Ext.refl _) | (with_reducible assumption) | (with_reducible refine Ext.drewN ?_ _) | (with_reducible refine Ext.drew ?_) | (with_reducible refine Ext.alloc ?_ _) | (with_reducible refine Ext.setCell ?_ ?_ _) | (with_reducible refine Ext.setRow ?_ ?_ _) | (with_reducible exact Nat.le_refl _) | (with_reducible refine Ext.trans ?_ (by assumption)) | omega)⟩

      · have p2 : decide (e.Index ≤ f.Last) = false := decide_eq_false q2
        have P2 := Lib.hid p2
        have HE := Lib.hid (show feedOk f = false from by rw [HALL.out, HEND.out, p1, p2]; rfl)
        go_wp2_with fail
        go_quiet (fail)
        go_wp2_with fail
        go_ret
        exact ⟨by (rw [HE.out]; first | rfl | exact congrArg (fun z => Ending.returned (Value.bool z)) P2.out), by repeat' (first | (with_reducible exact Ext.refl _) | (with_reducible assumption) | (with_reducible refine Ext.drewN ?_ _) | (with_reducible refine Ext.drew ?_) | (with_reducible refine Ext.alloc ?_ _) | (with_reducible refine Ext.setCell ?_ ?_ _) | (with_reducible refine Ext.setRow ?_ ?_ _) | (with_reducible exact Nat.le_refl _) | (with_reducible refine Ext.trans ?_ (by assumption)) | omega)⟩

    · have p1 : decide (f.Base < d.Index) = false := decide_eq_false q1
      have HE := Lib.hid (show feedOk f = false from by rw [HALL.out, HEND.out, p1]; rfl)
      go_wp2_with fail
      go_quiet (fail)
      go_wp2_with fail
      go_ret
      exact ⟨by (rw [HE.out]; try rfl), by repeat' (first | (with_reducible exact Ext.refl _) | (with_reducible assumption) | (with_reducible refine Ext.drewN ?_ _) | (with_reducible refine Ext.drew ?_) | (with_reducible refine Ext.alloc ?_ _) | (with_reducible refine Ext.setCell ?_ ?_ _) | (with_reducible refine Ext.setRow ?_ ?_ _) | (with_reducible exact Nat.le_refl _) | (with_reducible refine Ext.trans ?_ (by assumption)) | omega)⟩


end Go.Proofs.YtemfcogdjmjplaaGreat

-- A feed heard: the reference.
set_option linter.unusedSimpArgs false
set_option linter.unusedVariables false
namespace Go.Proofs.YtemfcogdjmjplaaGreat
open Go.RowKit Go.G8

theorem IsDisk.boxS {B : Nat} {w : World} {v : Value} {d : DDisk} (h : IsDisk B w v d) {X : Nat} {a : Array Value} (hX : Blk w X 48 a) (i : Nat) (u : Value) : IsDisk B (w.setCell ⟨X, i, none⟩ u) v d :=
  let ⟨t0, t1, s0, s1, e, h0, h1, hd⟩ := h; ⟨t0, t1, s0, s1, e, h0.box hX (by decide) (by decide) i u, h1.box hX (by decide) (by decide) i u, hd⟩
set_option maxHeartbeats 4000000 in
set_option maxRecDepth 100000 in
theorem sHeardFeed_k {w : World} {v u : Value} {s : DStore} {f : DFeed} (h : RdStore w v s) (hf : RdFeed w u f) : Calls Tryz.prog 9 #[v, u] w (Ret w fun r w' => ∃ F, OwStore w.heap.size w' r (hfD s f) F) := by
  have HS := Lib.hid h
  have HF := Lib.hid hf
  obtain ⟨a0, n0, k0, a1, n1, k1, a4, n4, k4, a5, n5, k5, rfl⟩ := h.shape
  obtain ⟨t2, rfl, h2⟩ := hf
  obtain ⟨a9, k9, rfl, hcap, hm, ha⟩ := h2.recs (f := DEntry.ints) (fun _ => rfl) (by decide)
  have HA := Lib.hid ha
  clear h h2 ha
  unfold maxLen at hm
  obtain ⟨W1, hW1⟩ : ∃ W1, W1 = ((w.alloc (.cells #[.slice a0 n0 k0, .slice a1 n1 k1, .int .i64 s.State.Index, .int .i64 s.State.Time, .slice a4 n4 k4, .slice a5 n5 k5, .int .i64 s.State.Lease.Holder, .int .i64 s.State.Lease.Epoch, .int .i64 s.State.Lease.Until, .int .i64 s.Num, .int .i64 s.Last, .int .i64 s.Busy] 48)).alloc (.cells #[.int .i64 f.Base, .int .i64 f.Last, .slice a9 f.Entries.length k9] 53)).alloc (.cells #[.slice none 0 0, .slice none 0 0, .int .i64 0, .int .i64 0, .slice none 0 0, .slice none 0 0, .int .i64 0, .int .i64 0, .int .i64 0, .int .i64 0, .int .i64 0, .int .i64 0] 48) := ⟨_, rfl⟩
  have E1 : Ext w W1 := by rw [hW1]; exact (((Ext.refl _).alloc _).alloc _).alloc _
  have KS1 : Blk W1 w.heap.size 48 #[.slice a0 n0 k0, .slice a1 n1 k1, .int .i64 s.State.Index, .int .i64 s.State.Time, .slice a4 n4 k4, .slice a5 n5 k5, .int .i64 s.State.Lease.Holder, .int .i64 s.State.Lease.Epoch, .int .i64 s.State.Lease.Until, .int .i64 s.Num, .int .i64 s.Last, .int .i64 s.Busy] := by rw [hW1]; exact ((Blk.new _ _ _).alloc _).alloc _
  have KF1 : Blk W1 (w.heap.size + 1) 53 #[.int .i64 f.Base, .int .i64 f.Last, .slice a9 f.Entries.length k9] := by rw [hW1]; exact (Blk.new2 _ _ _ _).alloc _
  have KR1 : Blk W1 (w.heap.size + 1 + 1) 48 #[.slice none 0 0, .slice none 0 0, .int .i64 0, .int .i64 0, .slice none 0 0, .slice none 0 0, .int .i64 0, .int .i64 0, .int .i64 0, .int .i64 0, .int .i64 0, .int .i64 0] := by rw [hW1]; exact Blk.new3 _ _ _ _ _
  have hz1 : w.heap.size + 2 < W1.heap.size := by rw [hW1]; simp
  have HW1 := Lib.hid hW1
  clear hW1
  have CS1 := KS1.cell; have FS1 := KS1.frozen; have LS1 := KS1.lt; have CF1 := KF1.cell; have FF1 := KF1.frozen; have LF1 := KF1.lt; have CR1 := KR1.cell; have FR1 := KR1.frozen; have LR1 := KR1.lt
  go_enter Tryz.func9, Tryz.ntmps9
  go_wp2_with fail
  rw [← HW1.out]
  go_wp2_with fail
  refine (sStoreOk_r (HS.out.ext E1)).mono ?_
  rintro e9 w2 ⟨rfl, hx2⟩
  have E2 := E1.trans hx2
  have hz2 := hx2.size
  have KS2 := KS1.ext hx2; have KF2 := KF1.ext hx2; have KR2 := KR1.ext hx2
  clear CS1 FS1 LS1 CF1 FF1 LF1 CR1 FR1 LR1
  have CS2 := KS2.cell; have FS2 := KS2.frozen; have LS2 := KS2.lt; have CF2 := KF2.cell; have FF2 := KF2.frozen; have LF2 := KF2.lt; have CR2 := KR2.cell; have FR2 := KR2.frozen; have LR2 := KR2.lt
  cases hso : storeOk s
  · have HM := Lib.hid (show hfD s f = ⟨⟨[], []⟩, ⟨0, 0, [], [], ⟨0, 0, 0⟩⟩, 0, 0, 0⟩ from by simp [hfD, hso])
    go_wp2_with fail
    refine bodyPost_ret (by simp [results, Tryz.results9, go_sem, CR2, FR2, LR2]; try rfl) rfl ?_
    refine ⟨_, rfl, by repeat' (first | (with_reducible exact Ext.refl _) | (with_reducible assumption) | (with_reducible refine Ext.drewN ?_ _) | (with_reducible refine Ext.drew ?_) | (with_reducible refine Ext.alloc ?_ _) | (with_reducible refine Ext.setCell ?_ ?_ _) | (with_reducible refine Ext.setRow ?_ ?_ _) | (with_reducible exact Nat.le_refl _) | (with_reducible refine Ext.trans ?_ (by assumption)) | omega), ?_⟩
    rw [HM.out]
    exact OwStore.of (IsDisk.nil _ _) (OwnI.nil _ _ _ _) (OwnI.nil _ _ _ _)

  have HSO := Lib.hid hso
  clear hso
  go_wp2_with fail
  refine (l19Copy_k (HS.out.ext E2) (diskOk_small (storeOk_disk HSO.out)) (stateOk_small (storeOk_state HSO.out))).mono ?_
  rintro e9 w3 ⟨_, rfl, hx3, F3, g3⟩
  obtain ⟨b0, m0, j0, b1, m1, j1, b4, m4, j4, b5, m5, j5, rfl⟩ := g3.rd.shape
  have hz3 := hx3.size
  obtain ⟨w4, hW4⟩ : ∃ w4, w4 = w3.alloc (.cells #[.slice b0 m0 j0, .slice b1 m1 j1, .int .i64 s.State.Index, .int .i64 s.State.Time, .slice b4 m4 j4, .slice b5 m5 j5, .int .i64 s.State.Lease.Holder, .int .i64 s.State.Lease.Epoch, .int .i64 s.State.Lease.Until, .int .i64 s.Num, .int .i64 s.Last, .int .i64 s.Busy] 48) := ⟨_, rfl⟩
  have X4 : Ext w2 w4 := by rw [hW4]; exact hx3.alloc _
  have KO4 : Blk w4 w3.heap.size 48 #[.slice b0 m0 j0, .slice b1 m1 j1, .int .i64 s.State.Index, .int .i64 s.State.Time, .slice b4 m4 j4, .slice b5 m5 j5, .int .i64 s.State.Lease.Holder, .int .i64 s.State.Lease.Epoch, .int .i64 s.State.Lease.Until, .int .i64 s.Num, .int .i64 s.Last, .int .i64 s.Busy] := by rw [hW4]; exact Blk.new _ _ _
  have g4 : OwStore w2.heap.size w4 (.agg #[.slice b0 m0 j0, .slice b1 m1 j1, .int .i64 s.State.Index, .int .i64 s.State.Time, .slice b4 m4 j4, .slice b5 m5 j5, .int .i64 s.State.Lease.Holder, .int .i64 s.State.Lease.Epoch, .int .i64 s.State.Lease.Until, .int .i64 s.Num, .int .i64 s.Last, .int .i64 s.Busy]) s F3 := g3.ext (by rw [hW4]; exact (Ext.refl _).alloc _)
  have HW4 := Lib.hid hW4
  have E4 : Ext w w4 := E2.trans X4
  have KF3 := KF2.ext hx3
  have KF4 := KF2.ext X4; have KR4 := KR2.ext X4
  have hz4 := X4.size
  clear hW4 g3 CS2 FS2 LS2 CF2 FF2 LF2 CR2 FR2 LR2
  have CF3 := KF3.cell; have FF3 := KF3.frozen; have LF3 := KF3.lt
  obtain ⟨X, hX⟩ : ∃ X, X = w3.heap.size := ⟨_, rfl⟩
  rw [← hX] at KO4
  have hXl := KO4.lt
  have hX2 : w2.heap.size ≤ X := by omega
  have HX := Lib.hid hX
  clear hX
  go_wp2_with fail
  rw [← HW4.out, ← HX.out]
  clear CF3 FF3 LF3 KF3
  refine (sFeedOk_r (HF.out.ext E4)).mono ?_
  rintro e9 w5 ⟨rfl, hx5⟩
  have E5 := E4.trans hx5
  have hz5 := hx5.size
  have KF5 := KF4.ext hx5; have KR5 := KR4.ext hx5; have KO5 := KO4.ext hx5
  have g5 := g4.ext hx5
  cases hfo : feedOk f
  · have HM := Lib.hid (show hfD s f = s from by simp [hfD, HSO.out, hfo])
    have CF5 := KF5.cell; have FF5 := KF5.frozen; have LF5 := KF5.lt; have CR5 := KR5.cell; have FR5 := KR5.frozen; have LR5 := KR5.lt; have CO5 := KO5.cell; have FO5 := KO5.frozen; have LO5 := KO5.lt
    go_wp2_with fail
    refine bodyPost_ret (by simp [results, Tryz.results9, go_sem, CR5, FR5, LR5]; try rfl) rfl ?_
    refine ⟨_, rfl, by repeat' (first | (with_reducible exact Ext.refl _) | (with_reducible assumption) | (with_reducible refine Ext.drewN ?_ _) | (with_reducible refine Ext.drew ?_) | (with_reducible refine Ext.alloc ?_ _) | (with_reducible refine Ext.setCell ?_ ?_ _) | (with_reducible refine Ext.setRow ?_ ?_ _) | (with_reducible exact Nat.le_refl _) | (with_reducible refine Ext.trans ?_ (by assumption)) | omega), ?_⟩
    rw [HM.out]
    exact ⟨F3, (OwStore.keep g5 (by repeat' (first | (with_reducible exact Chg.refl _ _) | (with_reducible refine Chg.drewN ?_ _) | (with_reducible refine Chg.drew ?_) | (with_reducible refine Chg.alloc ?_ _) | (with_reducible refine Chg.setLow ?_ (by omega) _) | (with_reducible refine Chg.setNew ?_ (by omega) _) | (with_reducible refine Chg.setRow ?_ (by omega) _) | (with_reducible refine Chg.ext ?_ (by assumption)) | omega))).mono (by omega)⟩

  have HM := Lib.hid (show hfD s f = ⟨s.Disk, feedS s.State f.Entries, s.Num, s.Last, s.Busy⟩ from by simp [hfD, HSO.out, hfo])
  obtain ⟨gd5, gp5, gj5⟩ := g5.isDisk
  clear hfo
  have CF5 := KF5.cell; have FF5 := KF5.frozen; have LF5 := KF5.lt
  go_wp2_with fail
  go_loopw [6] (fun ii wr => ∃ (k : Nat) (m : DState) (b2 : Option Addr) (q2 o2 : Nat) (b3 : Option Addr) (q3 o3 : Nat), k ≤ f.Entries.length ∧ ii = .int .i64 k ∧ Ext w wr ∧ Blk wr X 48 #[.slice b0 m0 j0, .slice b1 m1 j1, .int .i64 m.Index, .int .i64 m.Time, .slice b2 q2 o2, .slice b3 q3 o3, .int .i64 m.Lease.Holder, .int .i64 m.Lease.Epoch, .int .i64 m.Lease.Until, .int .i64 s.Num, .int .i64 s.Last, .int .i64 s.Busy] ∧ Blk wr (w.heap.size + 1 + 1) 48 #[.slice none 0 0, .slice none 0 0, .int .i64 0, .int .i64 0, .slice none 0 0, .slice none 0 0, .int .i64 0, .int .i64 0, .int .i64 0, .int .i64 0, .int .i64 0, .int .i64 0] ∧ Blk wr (w.heap.size + 1) 53 #[.int .i64 f.Base, .int .i64 f.Last, .slice a9 f.Entries.length k9] ∧ IsDisk w2.heap.size wr (.agg #[.slice b0 m0 j0, .slice b1 m1 j1]) s.Disk ∧ OwnI w2.heap.size 114 2 wr (.slice b2 q2 o2) (flPair m.Pairs) ∧ OwnI w2.heap.size 138 5 wr (.slice b3 q3 o3) (flJob m.Jobs) ∧ Hid (feedS s.State (f.Entries.take k) = m) ∧ Hid (stateOk m = true)) (fun ii _ => f.Entries.length - (intOf ii).toNat)
  case atStart => exact ⟨0, s.State, b4, m4, j4, b5, m5, j5, Nat.zero_le _, rfl, E5, KO5, KR5, KF5, gd5, gp5, gj5, Lib.hid rfl, Lib.hid (storeOk_state HSO.out)⟩
  case round =>
    clear KF4 KR4 KO4 KO5 KR5 gd5 gp5 gj5 g5 g4 CF5 FF5 LF5 KF5
    obtain ⟨k, m, b2, q2, o2, b3, q3, o3, hk, rfl, he, KX, KR, KF, gd, P0, J0, hf, hmo⟩ := hrel
    have hzr := he.size
    have hRD : RdState wr (.agg #[.int .i64 m.Index, .int .i64 m.Time, .slice b2 q2 o2, .slice b3 q3 o3, .int .i64 m.Lease.Holder, .int .i64 m.Lease.Epoch, .int .i64 m.Lease.Until]) m := ⟨_, _, rfl, P0.ints, J0.ints⟩
    have HRD := Lib.hid hRD
    clear hRD
    have hxl := KX.lt
    have hrx : w.heap.size + 1 + 1 ≠ X := by omega
    have hfx : w.heap.size + 1 ≠ X := by omega
    have CF := KF.cell; have LF := KF.lt
    by_cases hlt : k < f.Entries.length
    · obtain ⟨d, b9, o9, hd, rfl, hb9, c⟩ := HA.out k hlt
      have d0 := he.cell (c 0 _ (by decide) rfl)
      have d1 := he.cell (c 1 _ (by decide) rfl)
      have d2 := he.cell (c 2 _ (by decide) rfl)
      have d3 := he.cell (c 3 _ (by decide) rfl)
      have d4 := he.cell (c 4 _ (by decide) rfl)
      have d5 := he.cell (c 5 _ (by decide) rfl)
      have d6 := he.cell (c 6 _ (by decide) rfl)
      have d7 := he.cell (c 7 _ (by decide) rfl)
      have d8 := he.cell (c 8 _ (by decide) rfl)
      simp only [Nat.add_zero] at d0
      have HD := Lib.hid hd
      clear c hd
      have hkI : (k : Int) < (f.Entries.length : Int) := by omega
      go_wp2_with fail
      clear CF LF
      have yx0 : ∀ w', Ext wr w' → w'.cell? ⟨X, 2, none⟩ = some (.int .i64 m.Index) := fun w' hw => (KX.ext hw).cell 2
      have yx1 : ∀ w', Ext wr w' → w'.cell? ⟨X, 3, none⟩ = some (.int .i64 m.Time) := fun w' hw => (KX.ext hw).cell 3
      have yx2 : ∀ w', Ext wr w' → w'.cell? ⟨X, 4, none⟩ = some (.slice b2 q2 o2) := fun w' hw => (KX.ext hw).cell 4
      have yx3 : ∀ w', Ext wr w' → w'.cell? ⟨X, 5, none⟩ = some (.slice b3 q3 o3) := fun w' hw => (KX.ext hw).cell 5
      have yx4 : ∀ w', Ext wr w' → w'.cell? ⟨X, 6, none⟩ = some (.int .i64 m.Lease.Holder) := fun w' hw => (KX.ext hw).cell 6
      have yx5 : ∀ w', Ext wr w' → w'.cell? ⟨X, 7, none⟩ = some (.int .i64 m.Lease.Epoch) := fun w' hw => (KX.ext hw).cell 7
      have yx6 : ∀ w', Ext wr w' → w'.cell? ⟨X, 8, none⟩ = some (.int .i64 m.Lease.Until) := fun w' hw => (KX.ext hw).cell 8
      have yf : ∀ w', Ext wr w' → w'.cell? ⟨w.heap.size + 1, 2, none⟩ = some (.slice (some ⟨b9, o9, none⟩) f.Entries.length k9) := fun w' hw => (KF.ext hw).cell 2
      have yd0 := fun w' (hw : Ext wr w') => hw.cell d0
      have yd1 := fun w' (hw : Ext wr w') => hw.cell d1
      have yd2 := fun w' (hw : Ext wr w') => hw.cell d2
      have yd3 := fun w' (hw : Ext wr w') => hw.cell d3
      have yd4 := fun w' (hw : Ext wr w') => hw.cell d4
      have yd5 := fun w' (hw : Ext wr w') => hw.cell d5
      have yd6 := fun w' (hw : Ext wr w') => hw.cell d6
      have yd7 := fun w' (hw : Ext wr w') => hw.cell d7
      have yd8 := fun w' (hw : Ext wr w') => hw.cell d8

      clear d0 d1 d2 d3 d4 d5 d6 d7 d8
      go_cut [7, 8] (fun sx bx wx => ∃ gg v2 vn2 vc2 v3 vn3 vc3, sx = .pointer (some ⟨gg, 0, none⟩) ∧ bx = .bool (appOk m d) ∧ Ext wr wx ∧ wr.heap.size ≤ gg ∧ Blk wx gg 46 #[.int .i64 (appD m d).Index, .int .i64 (appD m d).Time, .slice v2 vn2 vc2, .slice v3 vn3 vc3, .int .i64 (appD m d).Lease.Holder, .int .i64 (appD m d).Lease.Epoch, .int .i64 (appD m d).Lease.Until] ∧ OwnI wr.heap.size 114 2 wx (.slice v2 vn2 vc2) (flPair (appD m d).Pairs) ∧ OwnI wr.heap.size 138 5 wx (.slice v3 vn3 vc3) (flJob (appD m d).Jobs))
      case first =>
        go_region_held3 (fun w' => Ext wr w') (repeat' (first | (with_reducible exact Ext.refl _) | (with_reducible assumption) | (with_reducible refine Ext.drewN ?_ _) | (with_reducible refine Ext.drew ?_) | (with_reducible refine Ext.alloc ?_ _) | (with_reducible refine Ext.setCell ?_ ?_ _) | (with_reducible refine Ext.setRow ?_ ?_ _) | (with_reducible exact Nat.le_refl _) | (with_reducible refine Ext.trans ?_ (by assumption)) | omega)) (first | (go_at_call 37; refine (sApplied_k (HRD.out.ext (by repeat' (first | (with_reducible exact Ext.refl _) | (with_reducible refine Ext.drewN ?_ _) | (with_reducible refine Ext.drew ?_) | (with_reducible refine Ext.alloc ?_ _) | (with_reducible refine Ext.setCell ?_ ?_ _) | (with_reducible refine Ext.trans ?_ hxb) | (with_reducible assumption) | omega))) d.Index d.Time d.Client d.Seq d.Op.Kind d.Op.A d.Op.B d.Op.C d.Op.D).mono ?_; rintro e9 wb ⟨_, rfl, hxb, u9, rfl, p2, p3, rfl, gp, gj⟩; obtain ⟨v2, vn2, vc2, rfl⟩ := gp.shape; obtain ⟨v3, vn3, vc3, rfl⟩ := gj.shape; have hzhxb := hxb.size; obtain ⟨hchxb, hdhxb⟩ := hxb.cells; (try simp only [World.size_alloc, size_drew] at hzhxb hchxb hdhxb); (try have hqhxbwr : wr.heap.size < wb.heap.size := (by omega))))
        all_goals clear yx0 yx1 yx2 yx3 yx4 yx5 yx6 yf yd0 yd1 yd2 yd3 yd4 yd5 yd6 yd7 yd8 hchxb hdhxb
        all_goals go_wp2_with fail
        all_goals go_meet
        all_goals case rel =>
          (try simp only [World.size_alloc, size_drew] at *)
          exact ⟨_, _, _, _, _, _, _, rfl, by first | rfl | trivial, by repeat' (first | (with_reducible exact Ext.refl _) | (with_reducible assumption) | (with_reducible refine Ext.drewN ?_ _) | (with_reducible refine Ext.drew ?_) | (with_reducible refine Ext.alloc ?_ _) | (with_reducible refine Ext.setCell ?_ ?_ _) | (with_reducible refine Ext.setRow ?_ ?_ _) | (with_reducible exact Nat.le_refl _) | (with_reducible refine Ext.trans ?_ (by assumption)) | omega), by omega, (Blk.cast (by repeat' (first | (with_reducible assumption) | (with_reducible exact Blk.new _ _ _) | (with_reducible exact Blk.new2 _ _ _ _) | (with_reducible (apply Blk.ext; rotate_left; exact hxb)) | (with_reducible apply Blk.drew) | (with_reducible apply Blk.drewN) | (with_reducible apply Blk.alloc) | (with_reducible apply Blk.set_) | (with_reducible apply Blk.row) | (with_reducible apply Blk.far) | (with_reducible apply Blk.rowFar) | omega | (simp; omega))) (by simp)), (gp.keep (by repeat' (first | (with_reducible exact Chg.refl _ _) | (with_reducible refine Chg.drewN ?_ _) | (with_reducible refine Chg.drew ?_) | (with_reducible refine Chg.alloc ?_ _) | (with_reducible refine Chg.setLow ?_ (by omega) _) | (with_reducible refine Chg.setNew ?_ (by omega) _) | (with_reducible refine Chg.setRow ?_ (by omega) _) | (with_reducible refine Chg.ext ?_ (by assumption)) | omega))).mono (by omega), (gj.keep (by repeat' (first | (with_reducible exact Chg.refl _ _) | (with_reducible refine Chg.drewN ?_ _) | (with_reducible refine Chg.drew ?_) | (with_reducible refine Chg.alloc ?_ _) | (with_reducible refine Chg.setLow ?_ (by omega) _) | (with_reducible refine Chg.setNew ?_ (by omega) _) | (with_reducible refine Chg.setRow ?_ (by omega) _) | (with_reducible refine Chg.ext ?_ (by assumption)) | omega))).mono (by omega)⟩
      case rest =>
        revert wc; intro w6 hcut
        obtain ⟨gg, v2, vn2, vc2, v3, vn3, vc3, rfl, rfl, X5, hge5, KG5, gp, gj⟩ := hcut
        clear yx0 yx1 yx2 yx3 yx4 yx5 yx6 yf yd0 yd1 yd2 yd3 yd4 yd5 yd6 yd7 yd8
        have KX5 := KX.ext X5; have KR5 := KR.ext X5; have KF5 := KF.ext X5
        have gd5 := gd.ext X5
        have hz6 := X5.size
        have E6 := he.trans X5
        have CX5 := KX5.cell; have FX5 := KX5.frozen; have LX5 := KX5.lt; have CG5 := KG5.cell; have FG5 := KG5.frozen; have LG5 := KG5.lt
        cases hn : nextIn m d
        · have ha : appOk m d = false := by simp [appOk, hn]
          rw [ha]
          have hnx : feedS s.State (f.Entries.take (k + 1)) = m := by rw [feedS_next hf.out HD.out, hn]; rfl
          have HNX := Lib.hid hnx
          clear hnx hn ha
          go_wp2_with fail
          go_roundw
          case rel => exact ⟨k + 1, m, b2, q2, o2, b3, q3, o3, by omega, by go_num, E6, KX5, KR5, KF5, gd5, Own.ext P0 X5, Own.ext J0 X5, HNX, hmo⟩
          case measure => simp [intOf]; omega
        have ha : appOk m d = true := by simp [appOk, hmo.out, hn]
        have hb : appD m d = stepS m d := by simp [appD, hmo.out, hn]
        have hnx : feedS s.State (f.Entries.take (k + 1)) = stepS m d := by rw [feedS_next hf.out HD.out, hn]; rfl
        have HN := Lib.hid hn; have HNX := Lib.hid hnx
        rw [ha]
        rw [hb] at KG5 gp gj
        clear hn ha hb hnx CG5 FG5 LG5
        have CG5 := KG5.cell; have LG5 := KG5.lt
        go_wp2_with fail
        go_roundw
        case rel =>
          refine ⟨k + 1, stepS m d, v2, vn2, vc2, v3, vn3, vc3, by omega, by go_num, by repeat' (first | (with_reducible exact Ext.refl _) | (with_reducible assumption) | (with_reducible refine Ext.drewN ?_ _) | (with_reducible refine Ext.drew ?_) | (with_reducible refine Ext.alloc ?_ _) | (with_reducible refine Ext.setCell ?_ ?_ _) | (with_reducible refine Ext.setRow ?_ ?_ _) | (with_reducible exact Nat.le_refl _) | (with_reducible refine Ext.trans ?_ (by assumption)) | omega), ?_, (((((((KR5.far (p := ⟨X, 2, none⟩) hrx (.int .i64 (stepS m d).Index)).far (p := ⟨X, 3, none⟩) hrx (.int .i64 (stepS m d).Time)).far (p := ⟨X, 4, none⟩) hrx (.slice v2 vn2 vc2)).far (p := ⟨X, 5, none⟩) hrx (.slice v3 vn3 vc3)).far (p := ⟨X, 6, none⟩) hrx (.int .i64 (stepS m d).Lease.Holder)).far (p := ⟨X, 7, none⟩) hrx (.int .i64 (stepS m d).Lease.Epoch)).far (p := ⟨X, 8, none⟩) hrx (.int .i64 (stepS m d).Lease.Until)), (((((((KF5.far (p := ⟨X, 2, none⟩) hfx (.int .i64 (stepS m d).Index)).far (p := ⟨X, 3, none⟩) hfx (.int .i64 (stepS m d).Time)).far (p := ⟨X, 4, none⟩) hfx (.slice v2 vn2 vc2)).far (p := ⟨X, 5, none⟩) hfx (.slice v3 vn3 vc3)).far (p := ⟨X, 6, none⟩) hfx (.int .i64 (stepS m d).Lease.Holder)).far (p := ⟨X, 7, none⟩) hfx (.int .i64 (stepS m d).Lease.Epoch)).far (p := ⟨X, 8, none⟩) hfx (.int .i64 (stepS m d).Lease.Until)), (((((((gd5.boxS KX5 2 (.int .i64 (stepS m d).Index)).boxS (KX5.set_ 2 (.int .i64 (stepS m d).Index)) 3 (.int .i64 (stepS m d).Time)).boxS ((KX5.set_ 2 (.int .i64 (stepS m d).Index)).set_ 3 (.int .i64 (stepS m d).Time)) 4 (.slice v2 vn2 vc2)).boxS (((KX5.set_ 2 (.int .i64 (stepS m d).Index)).set_ 3 (.int .i64 (stepS m d).Time)).set_ 4 (.slice v2 vn2 vc2)) 5 (.slice v3 vn3 vc3)).boxS ((((KX5.set_ 2 (.int .i64 (stepS m d).Index)).set_ 3 (.int .i64 (stepS m d).Time)).set_ 4 (.slice v2 vn2 vc2)).set_ 5 (.slice v3 vn3 vc3)) 6 (.int .i64 (stepS m d).Lease.Holder)).boxS (((((KX5.set_ 2 (.int .i64 (stepS m d).Index)).set_ 3 (.int .i64 (stepS m d).Time)).set_ 4 (.slice v2 vn2 vc2)).set_ 5 (.slice v3 vn3 vc3)).set_ 6 (.int .i64 (stepS m d).Lease.Holder)) 7 (.int .i64 (stepS m d).Lease.Epoch)).boxS ((((((KX5.set_ 2 (.int .i64 (stepS m d).Index)).set_ 3 (.int .i64 (stepS m d).Time)).set_ 4 (.slice v2 vn2 vc2)).set_ 5 (.slice v3 vn3 vc3)).set_ 6 (.int .i64 (stepS m d).Lease.Holder)).set_ 7 (.int .i64 (stepS m d).Lease.Epoch)) 8 (.int .i64 (stepS m d).Lease.Until)), (gp.keep ((((((((Chg.refl _ _).setLow hxl _).setLow hxl _).setLow hxl _).setLow hxl _).setLow hxl _).setLow hxl _).setLow hxl _)).mono (by omega), (gj.keep ((((((((Chg.refl _ _).setLow hxl _).setLow hxl _).setLow hxl _).setLow hxl _).setLow hxl _).setLow hxl _).setLow hxl _)).mono (by omega), HNX, Lib.hid (stepS_ok hmo.out HN.out)⟩
          have := (((((((KX5.set_ 2 (.int .i64 (stepS m d).Index)).set_ 3 (.int .i64 (stepS m d).Time)).set_ 4 (.slice v2 vn2 vc2)).set_ 5 (.slice v3 vn3 vc3)).set_ 6 (.int .i64 (stepS m d).Lease.Holder)).set_ 7 (.int .i64 (stepS m d).Lease.Epoch)).set_ 8 (.int .i64 (stepS m d).Lease.Until))
          simpa using this
        case measure => simp [intOf]; omega
    · obtain rfl : k = f.Entries.length := by omega
      have hff := hf.out
      rw [List.take_length] at hff
      have HFF := Lib.hid hff
      clear hff
      have CX := KX.cell; have LX := KX.lt
      have CR := KR.cell; have FR := KR.frozen; have LR := KR.lt
      have hzz := he.size
      go_wp2_with fail
      refine bodyPost_ret (by simp [results, Tryz.results9, go_sem, CR, FR, LR]; try rfl) rfl ?_
      refine ⟨_, rfl, by repeat' (first | (with_reducible exact Ext.refl _) | (with_reducible assumption) | (with_reducible refine Ext.drewN ?_ _) | (with_reducible refine Ext.drew ?_) | (with_reducible refine Ext.alloc ?_ _) | (with_reducible refine Ext.setCell ?_ ?_ _) | (with_reducible refine Ext.setRow ?_ ?_ _) | (with_reducible exact Nat.le_refl _) | (with_reducible refine Ext.trans ?_ (by assumption)) | omega), ?_⟩
      rw [HM.out]
      exact by rw [HFF.out]; exact OwStore.of ((gd.keep (by repeat' (first | (with_reducible exact Chg.refl _ _) | (with_reducible refine Chg.drewN ?_ _) | (with_reducible refine Chg.drew ?_) | (with_reducible refine Chg.alloc ?_ _) | (with_reducible refine Chg.setLow ?_ (by omega) _) | (with_reducible refine Chg.setNew ?_ (by omega) _) | (with_reducible refine Chg.setRow ?_ (by omega) _) | (with_reducible refine Chg.ext ?_ (by assumption)) | omega))).mono (by omega)) ((P0.keep (by repeat' (first | (with_reducible exact Chg.refl _ _) | (with_reducible refine Chg.drewN ?_ _) | (with_reducible refine Chg.drew ?_) | (with_reducible refine Chg.alloc ?_ _) | (with_reducible refine Chg.setLow ?_ (by omega) _) | (with_reducible refine Chg.setNew ?_ (by omega) _) | (with_reducible refine Chg.setRow ?_ (by omega) _) | (with_reducible refine Chg.ext ?_ (by assumption)) | omega))).mono (by omega)) ((J0.keep (by repeat' (first | (with_reducible exact Chg.refl _ _) | (with_reducible refine Chg.drewN ?_ _) | (with_reducible refine Chg.drew ?_) | (with_reducible refine Chg.alloc ?_ _) | (with_reducible refine Chg.setLow ?_ (by omega) _) | (with_reducible refine Chg.setNew ?_ (by omega) _) | (with_reducible refine Chg.setRow ?_ (by omega) _) | (with_reducible refine Chg.ext ?_ (by assumption)) | omega))).mono (by omega))


end Go.Proofs.YtemfcogdjmjplaaGreat

-- Bounds of HeardFeed.
set_option linter.unusedSimpArgs false
set_option linter.unusedVariables false
namespace Go.Proofs.YtemfcogdjmjplaaGreat
open Go.RowKit Go.G8

end Go.Proofs.YtemfcogdjmjplaaGreat
namespace Go.G8
open Go.RowKit
open Go.Proofs.YtemfcogdjmjplaaGreat
theorem nHf (s : DStore) (f : DFeed) : nStore (hfD s f) ≤ 100000000 := by
  unfold hfD
  split
  · rename_i h
    obtain ⟨h1, h2⟩ := nState s h
    have h3 := nDisk_ok (storeOk_disk h)
    split
    · have h4 := stateOk_lens (feedS_ok f.Entries s.State (storeOk_state h))
      rw [nStore_eq]; simp only []; omega
    · rw [nStore_eq]; omega
  · simp [nStore, tot, nestInt64S, nestWrite]
end Go.G8
namespace Go.Proofs.YtemfcogdjmjplaaGreat
open Go.RowKit Go.G8
theorem rowU (w : World) (g : Nat) (cs : Array Value) : Upd w (w.setRow g cs) [g] := ⟨rfl, rfl, rfl, by rw [size_setRow]; exact Nat.le_refl _, fun k _ hn => heap_setRow_ne w cs (fun e => hn (by simp [e]))⟩
theorem OwStore.box {B : Nat} {w : World} {v : Value} {s : DStore} {F : List Nat} (h : OwStore B w v s F) {X : Nat} {a : Array Value} (hX : Blk w X 48 a) (i : Nat) (u : Value) : OwStore B (w.setCell ⟨X, i, none⟩ u) v s F :=
  let ⟨t0, t1, t4, t5, s0, s1, e, h0, h1, h4, h5, hd, hF⟩ := h; ⟨t0, t1, t4, t5, s0, s1, e, h0.box hX (by decide) (by decide) i u, h1.box hX (by decide) (by decide) i u, h4.boxI hX (by decide) i u, h5.boxI hX (by decide) i u, hd, hF⟩
end Go.Proofs.YtemfcogdjmjplaaGreat

-- HelpJ: contracts of the statements' helper functions.
set_option linter.unusedSimpArgs false
set_option linter.unusedVariables false
namespace Go.Proofs.YtemfcogdjmjplaaGreat
open Go.RowKit Go.G8

set_option maxHeartbeats 800000 in
theorem toFeed_c (w : World) (c0 : Int) (c1 : Int) (s2 : Value) (d2 : List Int) (L2 : Nat) (hL2 : d2.length = L2 * 9) (h2 : Ints 9 w s2 d2) (hs2 : L2 ≤ 1048576) :
    Calls Tryz.prog 11 #[.agg #[.int .i64 c0, .int .i64 c1, s2]] w (Ret w fun v w' => ∃ t2 : Value, v = .agg #[.int .i64 c0, .int .i64 c1, t2] ∧ OwnI w.heap.size 94 9 w' t2 d2) := by
  go_enter Tryz.func11, Tryz.ntmps11
  go_wp2_with (first | (go_at_call 40; refine (toEntryS_c _ s2 d2 L2 hL2 (h2.ext (by repeat' (first | (with_reducible exact Ext.refl _) | (with_reducible assumption) | (with_reducible refine Ext.drewN ?_ _) | (with_reducible refine Ext.drew ?_) | (with_reducible refine Ext.alloc ?_ _) | (with_reducible refine Ext.setCell ?_ ?_ _) | (with_reducible exact Nat.le_refl _) | (with_reducible refine Ext.trans ?_ (by assumption)) | omega))) hs2).mono ?_; rintro e w1 ⟨t2, rfl, hx1, g2⟩; obtain ⟨ta2, tn2, tc2, rfl⟩ := g2.shape; have hz1 := hx1.size; obtain ⟨hc1, hf1⟩ := hx1.cells; (repeat (first | simp only [World.size_alloc] at hz1 hc1 hf1 g2 | simp only [World.size_setCell] at hz1 hc1 hf1 g2)); have hy1_0 : w.heap.size < w1.heap.size := (by omega); have hy1_1 : w.heap.size + 1 < w1.heap.size := (by omega); have hy1_2 : w.heap.size + 1 + 1 < w1.heap.size := (by omega)))
  refine bodyPost_ret (v := .agg #[.int .i64 c0, .int .i64 c1, .slice ta2 tn2 tc2]) ?_ rfl ?_
  · simp [results, Tryz.results11, go_sem, *]
  · refine ⟨_, rfl, ?_, _, rfl, (g2.keep ?_).mono ?_⟩
    all_goals clear hc1 hf1
    · repeat' (first | (with_reducible exact Ext.refl _) | (with_reducible assumption) | (with_reducible refine Ext.drewN ?_ _) | (with_reducible refine Ext.drew ?_) | (with_reducible refine Ext.alloc ?_ _) | (with_reducible refine Ext.setCell ?_ ?_ _) | (with_reducible exact Nat.le_refl _) | (with_reducible refine Ext.trans ?_ (by assumption)) | omega)
    · repeat' (first | (with_reducible exact Chg.refl _ _) | (with_reducible refine Chg.drewN ?_ _) | (with_reducible refine Chg.drew ?_) | (with_reducible refine Chg.alloc ?_ _) | (with_reducible refine Chg.setLow ?_ ?_ _) | (with_reducible refine Chg.ext ?_ (by assumption)) | omega)
    · omega

set_option maxHeartbeats 800000 in
theorem szFeed_c (w : World) (c0 : Int) (c1 : Int) (s2 : Value) (d2 : List Int) (L2 : Nat) (hL2 : d2.length = L2 * 9) (left : Int) (h2 : Ints 9 w s2 d2) (h0 : 0 ≤ left) (h1 : left ≤ 1048576) :
    Calls Tryz.prog 8 #[.agg #[.int .i64 c0, .int .i64 c1, s2], .int .i64 left] w (Ret w fun v' _ => SzR left (L2) v') := by
  go_enter Tryz.func8, Tryz.ntmps8
  go_wp2_with (first | (go_at_call 34; refine (szEntryS_c _ s2 d2 L2 hL2 _ (h2.ext (by repeat' (first | (with_reducible exact Ext.refl _) | (with_reducible assumption) | (with_reducible refine Ext.drewN ?_ _) | (with_reducible refine Ext.drew ?_) | (with_reducible refine Ext.alloc ?_ _) | (with_reducible refine Ext.setCell ?_ ?_ _) | (with_reducible exact Nat.le_refl _) | (with_reducible refine Ext.trans ?_ (by assumption)) | omega))) (by omega) (by omega)).mono ?_; rintro e w1 ⟨v1, rfl, hx1, hv⟩; have hz1 := hx1.size; obtain ⟨hc1, hf1⟩ := hx1.cells; (repeat (first | simp only [World.size_alloc] at hz1 hc1 hf1 | simp only [World.size_setCell] at hz1 hc1 hf1)); have hy1_0 : w.heap.size < w1.heap.size := (by omega); rcases hv with ⟨rfl, q1⟩ | ⟨rfl, q1⟩))
  all_goals
    go_ret
    refine ⟨_, rfl, ?_, ?_⟩
    · repeat' (first | (with_reducible exact Ext.refl _) | (with_reducible assumption) | (with_reducible refine Ext.drewN ?_ _) | (with_reducible refine Ext.drew ?_) | (with_reducible refine Ext.alloc ?_ _) | (with_reducible refine Ext.setCell ?_ ?_ _) | (with_reducible exact Nat.le_refl _) | (with_reducible refine Ext.trans ?_ (by assumption)) | omega)
    · first | exact .inl ⟨rfl, by omega⟩ | (refine .inr ⟨congrArg (Value.int .i64) ?_, ?_⟩ <;> omega)

set_option maxHeartbeats 800000 in
theorem eqFeed_c (w : World) (c0 : Int) (c1 : Int) (s2 : Value) (t2 : Value) (d2 : List Int) (h2 : Ints 9 w s2 d2) (k2 : Ints 9 w t2 d2) :
    Calls Tryz.prog 14 #[.agg #[.int .i64 c0, .int .i64 c1, s2], .agg #[.int .i64 c0, .int .i64 c1, t2]] w (RetV w (.bool true)) := by
  go_enter Tryz.func14, Tryz.ntmps14
  go_wp2_with (first | (go_at_call 46; refine (eqEntryS_c _ s2 t2 d2 (h2.ext (by repeat' (first | (with_reducible exact Ext.refl _) | (with_reducible assumption) | (with_reducible refine Ext.drewN ?_ _) | (with_reducible refine Ext.drew ?_) | (with_reducible refine Ext.alloc ?_ _) | (with_reducible refine Ext.setCell ?_ ?_ _) | (with_reducible exact Nat.le_refl _) | (with_reducible refine Ext.trans ?_ (by assumption)) | omega))) (k2.ext (by repeat' (first | (with_reducible exact Ext.refl _) | (with_reducible assumption) | (with_reducible refine Ext.drewN ?_ _) | (with_reducible refine Ext.drew ?_) | (with_reducible refine Ext.alloc ?_ _) | (with_reducible refine Ext.setCell ?_ ?_ _) | (with_reducible exact Nat.le_refl _) | (with_reducible refine Ext.trans ?_ (by assumption)) | omega)))).mono ?_; rintro e w1 ⟨rfl, hx1⟩; have hz1 := hx1.size; obtain ⟨hc1, hf1⟩ := hx1.cells; (repeat (first | simp only [World.size_alloc] at hz1 hc1 hf1 | simp only [World.size_setCell] at hz1 hc1 hf1)); have hy1_0 : w.heap.size < w1.heap.size := (by omega); have hy1_1 : w.heap.size + 1 < w1.heap.size := (by omega)))
  go_ret
  refine ⟨rfl, ?_⟩
  repeat' (first | (with_reducible exact Ext.refl _) | (with_reducible assumption) | (with_reducible refine Ext.drewN ?_ _) | (with_reducible refine Ext.drew ?_) | (with_reducible refine Ext.alloc ?_ _) | (with_reducible refine Ext.setCell ?_ ?_ _) | (with_reducible exact Nat.le_refl _) | (with_reducible refine Ext.trans ?_ (by assumption)) | omega)

set_option maxHeartbeats 800000 in
theorem markFeed_c (w : World) (B : Nat) (c0 : Int) (c1 : Int) (s2 : Value) (d2 : List Int) (L2 : Nat) (hL2 : d2.length = L2 * 9) (q : Int) (h2 : OwnI B 94 9 w s2 d2) (h0 : 0 ≤ q) (h1 : q + (L2 * 9 : Nat) ≤ 4611686018427387904) :
    Calls Tryz.prog 16 #[.agg #[.int .i64 c0, .int .i64 c1, s2], .int .i64 q] w (RetM w (feet [s2]) (.int .i64 (q + (L2 * 9 : Nat))) fun w' => OwnI B 94 9 w' s2 (run q (L2 * 9))) := by
  go_enter Tryz.func16, Tryz.ntmps16
  go_wp2_with (first | (go_at_call 49; refine (markEntryS_c _ B s2 d2 L2 hL2 q (h2.ext (by repeat' (first | (with_reducible exact Ext.refl _) | (with_reducible assumption) | (with_reducible refine Ext.drewN ?_ _) | (with_reducible refine Ext.drew ?_) | (with_reducible refine Ext.alloc ?_ _) | (with_reducible refine Ext.setCell ?_ ?_ _) | (with_reducible exact Nat.le_refl _) | (with_reducible refine Ext.trans ?_ (by assumption)) | omega))) h0 h1).mono ?_; rintro e w1 ⟨rfl, hx1, g1⟩))
  go_ret
  exact ⟨rfl, (Ext.upd ((Ext.refl w).alloc _) _).trans hx1, g1⟩

end Go.Proofs.YtemfcogdjmjplaaGreat

-- Feeds as one thing: read, owned, marked.
set_option linter.unusedSimpArgs false
set_option linter.unusedVariables false
namespace Go.Proofs.YtemfcogdjmjplaaGreat
open Go.RowKit Go.G8

def OwFeed (B : Nat) (w : World) (v : Value) (s : DFeed) (F : List Nat) : Prop := ∃ t2 : Value, v = .agg #[.int .i64 s.Base, .int .i64 s.Last, t2] ∧ OwnI B 94 9 w t2 (flEntry s.Entries) ∧ F = feet [t2]
def numFeed (s : DFeed) : Nat := s.Entries.length * 9
def MkFeed (B : Nat) (w : World) (v : Value) (s : DFeed) (F : List Nat) (q : Int) : Prop := ∃ t2 : Value, v = .agg #[.int .i64 s.Base, .int .i64 s.Last, t2] ∧ OwnI B 94 9 w t2 (run q (s.Entries.length * 9)) ∧ F = feet [t2]
section
variable {B B' : Nat} {w w' : World} {v : Value} {s s' : DFeed} {F : List Nat} {q : Int}
theorem RdFeed.shape (h : RdFeed w v s) : ∃ a2 n2 k2, v = .agg #[.int .i64 s.Base, .int .i64 s.Last, .slice a2 n2 k2] := by
  obtain ⟨t2, rfl, h2⟩ := h
  obtain ⟨a2, n2, k2, rfl⟩ := h2.shape
  exact ⟨a2, n2, k2, rfl⟩
theorem OwFeed.rd (h : OwFeed B w v s F) : RdFeed w v s := let ⟨t2, e, h2, _⟩ := h; ⟨t2, e, h2.ints⟩
theorem OwFeed.ext (h : OwFeed B w v s F) (x : Ext w w') : OwFeed B w' v s F := let ⟨t2, e, h2, hF⟩ := h; ⟨t2, e, Own.ext h2 x, hF⟩
theorem OwFeed.keep (h : OwFeed B w v s F) (x : Chg B w w') : OwFeed B w' v s F := let ⟨t2, e, h2, hF⟩ := h; ⟨t2, e, h2.keep x, hF⟩
theorem OwFeed.mono (h : OwFeed B w v s F) (x : B' ≤ B) : OwFeed B' w v s F := let ⟨t2, e, h2, hF⟩ := h; ⟨t2, e, h2.mono x, hF⟩
theorem OwFeed.upd (h : OwFeed B w v s F) {fs : List Nat} (x : Upd w w' fs) (hn : ∀ k, k ∈ F → k ∈ fs → False) : OwFeed B w' v s F := by
  obtain ⟨t2, e, h2, rfl⟩ := h
  exact ⟨t2, e, OwnI.upd' h2 x hn, rfl⟩
theorem OwFeed.low (h : OwFeed B w v s F) : ∀ k, k ∈ F → B ≤ k ∧ k < w.heap.size := by
  obtain ⟨t2, e, h2, rfl⟩ := h
  exact fun k hk => h2.foot k hk
theorem MkFeed.ext (h : MkFeed B w v s F q) (x : Ext w w') : MkFeed B w' v s F q := let ⟨t2, e, h2, hF⟩ := h; ⟨t2, e, Own.ext h2 x, hF⟩
theorem MkFeed.upd (h : MkFeed B w v s F q) {fs : List Nat} (x : Upd w w' fs) (hn : ∀ k, k ∈ F → k ∈ fs → False) : MkFeed B w' v s F q := by
  obtain ⟨t2, e, h2, rfl⟩ := h
  exact ⟨t2, e, OwnI.upd' h2 x hn, rfl⟩
theorem numFeed_le (q2 : s.Entries.length ≤ 1048576) : numFeed s ≤ 100000000 := by unfold numFeed; omega
theorem to_Feed (h : RdFeed w v s) (q2 : s.Entries.length ≤ 1048576) : Calls Tryz.prog 11 #[v] w (Ret w fun v' w' => ∃ F, OwFeed w.heap.size w' v' s F) := by
  obtain ⟨t2, rfl, h2⟩ := h
  refine (toFeed_c w s.Base s.Last t2 _ _ (length_flEntry _) h2 q2).mono ?_
  rintro e w' ⟨_, rfl, hx, u2, rfl, g2⟩
  exact ⟨_, rfl, hx, _, u2, rfl, g2, rfl⟩
theorem sz_Feed (h : RdFeed w v s) {left : Int} (h0 : 0 ≤ left) (h1 : left ≤ 1048576) : Calls Tryz.prog 8 #[v, .int .i64 left] w (Ret w fun v' _ => SzR left (s.Entries.length) v') := by
  obtain ⟨t2, rfl, h2⟩ := h
  exact szFeed_c w s.Base s.Last t2 _ _ (length_flEntry _) _ h2 h0 h1
theorem eq_Feed {u : Value} (h : RdFeed w v s) (k : RdFeed w u s) : Calls Tryz.prog 14 #[v, u] w (RetV w (.bool true)) := by
  obtain ⟨t2, rfl, h2⟩ := h
  obtain ⟨u2, rfl, k2⟩ := k
  exact eqFeed_c w s.Base s.Last t2 u2 _ h2 k2
theorem mark_Feed (h : OwFeed B w v s F) (hq0 : 0 ≤ q) (hq1 : q + (numFeed s : Nat) ≤ 4611686018427387904) : Calls Tryz.prog 16 #[v, .int .i64 q] w (RetM w F (.int .i64 (q + (numFeed s : Nat))) fun w' => MkFeed B w' v s F q) := by
  obtain ⟨t2, rfl, h2, rfl⟩ := h
  unfold numFeed at hq1 ⊢
  refine (markFeed_c w B s.Base s.Last t2 _ _ (length_flEntry _) q h2 hq0 (by omega)).mono ?_
  rintro e w' ⟨rfl, hx, g2⟩
  exact ⟨rfl, hx, t2, rfl, g2, rfl⟩
end

end Go.Proofs.YtemfcogdjmjplaaGreat

-- The statement's walk: FnExactHeardFeed.
set_option linter.unusedSimpArgs false
set_option linter.unusedVariables false
namespace Go.Proofs.YtemfcogdjmjplaaGreat
open Go.RowKit Go.G8

set_option maxHeartbeats 24000000 in
set_option maxRecDepth 100000 in
theorem law_HeardFeed (w : World) (s0_0 : Value) (l0_0 : List (List Int)) (s0_1 : Value) (l0_1 : List DWrite) (c0_2 : Int) (c0_3 : Int) (s0_4 : Value) (l0_4 : List DPair) (s0_5 : Value) (l0_5 : List DJob) (c0_6 : Int) (c0_7 : Int) (c0_8 : Int) (c0_9 : Int) (c0_10 : Int) (c0_11 : Int) (c1_0 : Int) (c1_1 : Int) (s1_2 : Value) (l1_2 : List DEntry) (h0_0 : Nest 0 w s0_0 (nestInt64S l0_0)) (h0_1 : Nest 1 w s0_1 (nestWrite l0_1)) (h0_4 : Ints 2 w s0_4 (flPair l0_4)) (h0_5 : Ints 5 w s0_5 (flJob l0_5)) (h1_2 : Ints 9 w s1_2 (flEntry l1_2)) : Calls Tryz.prog 3 #[.agg #[s0_0, s0_1, .int .i64 c0_2, .int .i64 c0_3, s0_4, s0_5, .int .i64 c0_6, .int .i64 c0_7, .int .i64 c0_8, .int .i64 c0_9, .int .i64 c0_10, .int .i64 c0_11], .agg #[.int .i64 c1_0, .int .i64 c1_1, s1_2]] w (RetV w (.bool true)) := by
  obtain ⟨a0_0, n0_0, k0_0, rfl⟩ := h0_0.shape
  obtain ⟨a0_1, n0_1, k0_1, rfl⟩ := h0_1.shape
  obtain ⟨a0_4, n0_4, k0_4, rfl⟩ := h0_4.shape
  obtain ⟨a0_5, n0_5, k0_5, rfl⟩ := h0_5.shape
  obtain ⟨a1_2, n1_2, k1_2, rfl⟩ := h1_2.shape
  have h0 : RdStore w (.agg #[.slice a0_0 n0_0 k0_0, .slice a0_1 n0_1 k0_1, .int .i64 c0_2, .int .i64 c0_3, .slice a0_4 n0_4 k0_4, .slice a0_5 n0_5 k0_5, .int .i64 c0_6, .int .i64 c0_7, .int .i64 c0_8, .int .i64 c0_9, .int .i64 c0_10, .int .i64 c0_11]) ⟨⟨l0_0, l0_1⟩, ⟨c0_2, c0_3, l0_4, l0_5, ⟨c0_6, c0_7, c0_8⟩⟩, c0_9, c0_10, c0_11⟩ := ⟨_, _, _, _, rfl, h0_0, h0_1, h0_4, h0_5⟩
  obtain ⟨S, hS0⟩ : ∃ S : DStore, S = ⟨⟨l0_0, l0_1⟩, ⟨c0_2, c0_3, l0_4, l0_5, ⟨c0_6, c0_7, c0_8⟩⟩, c0_9, c0_10, c0_11⟩ := ⟨_, rfl⟩
  rw [← hS0] at h0
  have h1 : RdFeed w (.agg #[.int .i64 c1_0, .int .i64 c1_1, .slice a1_2 n1_2 k1_2]) ⟨c1_0, c1_1, l1_2⟩ := ⟨_, rfl, h1_2⟩
  obtain ⟨T, hS1⟩ : ∃ T : DFeed, T = ⟨c1_0, c1_1, l1_2⟩ := ⟨_, rfl⟩
  rw [← hS1] at h1
  go_enter Tryz.func3, Tryz.ntmps3
  go_wp2_with fail
  refine (sz_Store (h0.ext (by repeat' (first | (with_reducible exact Ext.refl _) | (with_reducible assumption) | (with_reducible refine Ext.drewN ?_ _) | (with_reducible refine Ext.drew ?_) | (with_reducible refine Ext.alloc ?_ _) | (with_reducible refine Ext.setCell ?_ ?_ _) | (with_reducible refine Ext.setRow ?_ ?_ _) | (with_reducible exact Nat.le_refl _) | (with_reducible refine Ext.trans ?_ (by assumption)) | omega))) (by omega) (by omega)).mono ?_
  rintro e w1 ⟨v1, rfl, hx1, hv1⟩
  have X1 : Ext w w1 := by repeat' (first | (with_reducible exact Ext.refl _) | (with_reducible assumption) | (with_reducible refine Ext.drewN ?_ _) | (with_reducible refine Ext.drew ?_) | (with_reducible refine Ext.alloc ?_ _) | (with_reducible refine Ext.setCell ?_ ?_ _) | (with_reducible refine Ext.setRow ?_ ?_ _) | (with_reducible exact Nat.le_refl _) | (with_reducible refine Ext.trans ?_ (by assumption)) | omega)
  have Ba : Blk w1 w.heap.size 33 #[.slice a0_0 n0_0 k0_0, .slice a0_1 n0_1 k0_1, .int .i64 c0_2, .int .i64 c0_3, .slice a0_4 n0_4 k0_4, .slice a0_5 n0_5 k0_5, .int .i64 c0_6, .int .i64 c0_7, .int .i64 c0_8, .int .i64 c0_9, .int .i64 c0_10, .int .i64 c0_11] := ((Blk.new _ _ _).alloc _).ext hx1
  have Bb : Blk w1 (w.heap.size + 1) 36 #[.int .i64 c1_0, .int .i64 c1_1, .slice a1_2 n1_2 k1_2] := (Blk.new2 _ _ _ _).ext hx1
  have Z1 := X1.size; have E1 := X1; clear hx1
  have MBa := Ba.lt; have MBb := Bb.lt
  have CBa := Ba.cell; have LBa := Ba.lt; have CBb := Bb.cell; have LBb := Bb.lt
  rcases hv1 with ⟨rfl, qz⟩ | ⟨rfl, qz⟩
  · go_wp2; go_ret; exact ⟨rfl, by repeat' (first | (with_reducible exact Ext.refl _) | (with_reducible assumption) | (with_reducible refine Ext.drewN ?_ _) | (with_reducible refine Ext.drew ?_) | (with_reducible refine Ext.alloc ?_ _) | (with_reducible refine Ext.setCell ?_ ?_ _) | (with_reducible refine Ext.setRow ?_ ?_ _) | (with_reducible exact Nat.le_refl _) | (with_reducible refine Ext.trans ?_ (by assumption)) | omega)⟩
  have q0_0 : rowsSize (nestInt64S S.Disk.Kept) ≤ 1048576 := by omega
  have q0_1 : rowsSize (nestWrite S.Disk.Wait) ≤ 1048576 := by omega
  have q0_2 : S.State.Pairs.length ≤ 1048576 := by omega
  have q0_3 : S.State.Jobs.length ≤ 1048576 := by omega
  obtain ⟨L2, hL2⟩ : ∃ z : Int, z = 1048576 - ((rowsSize (nestInt64S S.Disk.Kept) + rowsSize (nestWrite S.Disk.Wait) + S.State.Pairs.length + S.State.Jobs.length : Nat) : Int) := ⟨_, rfl⟩
  rw [← hL2]
  have L2a : 0 ≤ L2 := by omega
  have L2b : L2 ≤ 1048576 := by omega
  clear hL2 qz
  have dL2 : decide (L2 < 0) = false := by simp; omega
  go_wp2_with fail
  refine (sz_Feed (h1.ext (by repeat' (first | (with_reducible exact Ext.refl _) | (with_reducible assumption) | (with_reducible refine Ext.drewN ?_ _) | (with_reducible refine Ext.drew ?_) | (with_reducible refine Ext.alloc ?_ _) | (with_reducible refine Ext.setCell ?_ ?_ _) | (with_reducible refine Ext.setRow ?_ ?_ _) | (with_reducible exact Nat.le_refl _) | (with_reducible refine Ext.trans ?_ (by assumption)) | omega))) L2a L2b).mono ?_
  rintro e w2 ⟨v2, rfl, hx2, hv2⟩
  have X2 : Ext w1 w2 := by repeat' (first | (with_reducible exact Ext.refl _) | (with_reducible assumption) | (with_reducible refine Ext.drewN ?_ _) | (with_reducible refine Ext.drew ?_) | (with_reducible refine Ext.alloc ?_ _) | (with_reducible refine Ext.setCell ?_ ?_ _) | (with_reducible refine Ext.setRow ?_ ?_ _) | (with_reducible exact Nat.le_refl _) | (with_reducible refine Ext.trans ?_ (by assumption)) | omega)
  have Z2 := X2.size
  have E2 : Ext w w2 := E1.trans X2
  replace Ba := Ba.ext X2
  replace Bb := Bb.ext X2
  clear hx2
  clear CBa LBa CBb LBb
  have CBa := Ba.cell; have LBa := Ba.lt
  have CBb := Bb.cell; have LBb := Bb.lt
  rcases hv2 with ⟨rfl, qz⟩ | ⟨rfl, qz⟩
  · go_wp2; go_ret; exact ⟨rfl, E2⟩
  have q1_0 : T.Entries.length ≤ 1048576 := by omega
  have dL3 : decide (L2 - ((T.Entries.length : Nat) : Int) < 0) = false := by simp; omega
  obtain ⟨L3, hL3⟩ : ∃ z : Int, z = L2 - ((T.Entries.length : Nat) : Int) := ⟨_, rfl⟩
  rw [← hL3] at dL3 ⊢
  clear hL3 qz
  have nx := nStore_le2 S q0_0 q0_1 q0_2 q0_3
  have ny := numFeed_le (s := T) q1_0
  have nb := nHf S T
  clear hS0 hS1 h0_0 h0_1 h0_4 h0_5 h1_2
  go_wp2_with fail
  clear CBa LBa CBb LBb
  go_cut [6] (fun sx wx => ∃ aw0 nw0 kw0 aw1 nw1 kw1 aw4 nw4 kw4 aw5 nw5 kw5, ∃ gg : Nat, sx = .pointer (some ⟨gg, 0, none⟩) ∧ Ext w2 wx ∧ w2.heap.size ≤ gg ∧ Blk wx gg 48 #[.slice aw0 nw0 kw0, .slice aw1 nw1 kw1, .int .i64 (hfD S T).State.Index, .int .i64 (hfD S T).State.Time, .slice aw4 nw4 kw4, .slice aw5 nw5 kw5, .int .i64 (hfD S T).State.Lease.Holder, .int .i64 (hfD S T).State.Lease.Epoch, .int .i64 (hfD S T).State.Lease.Until, .int .i64 (hfD S T).Num, .int .i64 (hfD S T).Last, .int .i64 (hfD S T).Busy] ∧ ∃ F, OwStore w2.heap.size wx (.agg #[.slice aw0 nw0 kw0, .slice aw1 nw1 kw1, .int .i64 (hfD S T).State.Index, .int .i64 (hfD S T).State.Time, .slice aw4 nw4 kw4, .slice aw5 nw5 kw5, .int .i64 (hfD S T).State.Lease.Holder, .int .i64 (hfD S T).State.Lease.Epoch, .int .i64 (hfD S T).State.Lease.Until, .int .i64 (hfD S T).Num, .int .i64 (hfD S T).Last, .int .i64 (hfD S T).Busy]) (hfD S T) F ∧ (∀ k, k ∈ F → k < wx.heap.size ∧ k ≠ gg))
  case first =>
    refine wp_region_held_drew (S := (fun w' => Ext w2 w')) (by kernel_rfl) (by (try dsimp only); exact extT) (fun hHeld => ?_)
    refine wpAnyH_take (i := 0) (v := ?_) rfl (by kernel_rfl) (by kernel_rfl) (by kernel_rfl) (fun _ _ _ h => h) (Or.inl ⟨by rfl, ?_⟩) (by assumption) ?_
    rotate_left
    focus (intro w hSw; (try dsimp only at hSw); have hq := (Ba.ext hSw).cell; have hq2 := (Ba.ext hSw).lt; go_simp <;> with_reducible rfl)
    (try simp only [List.getElem_toArray, List.getElem_cons_zero, List.getElem_cons_succ, Act.put, List.setIfInBounds_toArray, List.set_cons_zero, List.set_cons_succ])
    refine wpAnyH_take (i := 2) (v := ?_) rfl (by kernel_rfl) (by kernel_rfl) (by kernel_rfl) (fun _ _ _ h => h) (Or.inl ⟨by rfl, ?_⟩) (by assumption) ?_
    rotate_left
    focus (intro w hSw; (try dsimp only at hSw); have hq := (Bb.ext hSw).cell; have hq2 := (Bb.ext hSw).lt; go_simp <;> with_reducible rfl)
    (try simp only [List.getElem_toArray, List.getElem_cons_zero, List.getElem_cons_succ, Act.put, List.setIfInBounds_toArray, List.set_cons_zero, List.set_cons_succ])
    refine wpAnyH_ready (rs := [1, 5]) (by kernel_rfl) (by simp) ?_
    refine AllReadyH.cons rfl (fun Kz hKz => ?_) (AllReadyH.cons rfl (fun Kz hKz => ?_) AllReadyH.nil)
    · (try simp only [List.getElem_toArray, List.getElem_cons_zero, List.getElem_cons_succ])
      go_simp
      (go_at_call 10; refine (to_Store (h0.ext (Ext.trans E2 (by repeat' (first | (with_reducible exact Ext.refl _) | (with_reducible assumption) | (with_reducible refine Ext.drewN ?_ _) | (with_reducible refine Ext.drew ?_) | (with_reducible refine Ext.alloc ?_ _) | (with_reducible refine Ext.setCell ?_ ?_ _) | (with_reducible refine Ext.setRow ?_ ?_ _) | (with_reducible exact Nat.le_refl _) | (with_reducible refine Ext.trans ?_ (by assumption)) | omega)))) q0_0 q0_1 q0_2 q0_3).mono ?_; rintro e wa ⟨_, rfl, hxwa, F0, g0⟩; obtain ⟨awp0, nwp0, kwp0, awp1, nwp1, kwp1, awp4, nwp4, kwp4, awp5, nwp5, kwp5, rfl⟩ := g0.rd.shape; have hzwa := hxwa.size; (try simp only [size_drew, World.size_alloc] at hzwa); have XA : Ext w2 wa := Ext.trans (by repeat' (first | (with_reducible exact Ext.refl _) | (with_reducible assumption) | (with_reducible refine Ext.drewN ?_ _) | (with_reducible refine Ext.drew ?_) | (with_reducible refine Ext.alloc ?_ _) | (with_reducible refine Ext.setCell ?_ ?_ _) | (with_reducible refine Ext.setRow ?_ ?_ _) | (with_reducible exact Nat.le_refl _) | (with_reducible refine Ext.trans ?_ (by assumption)) | omega)) hxwa; (first | (have KU := Blk.ext KU hxwa; have CU := KU.cell; have FU := KU.frozen; have LU := KU.lt) | (have KU : Blk wa w2.heap.size 48 #[.slice none 0 0, .slice none 0 0, .int .i64 0, .int .i64 0, .slice none 0 0, .slice none 0 0, .int .i64 0, .int .i64 0, .int .i64 0, .int .i64 0, .int .i64 0, .int .i64 0] := Blk.ext (Blk.new w2.drew _ _) hxwa; have CU := KU.cell; have FU := KU.frozen; have LU := KU.lt) | skip))
      refine hKz.out _ _ (by (try dsimp only); exact extT) (fun hHeld => ?_)
      clear hKz Kz
      (try simp only [List.getElem_toArray, List.getElem_cons_zero, List.getElem_cons_succ, Act.put, List.setIfInBounds_toArray, List.set_cons_zero, List.set_cons_succ])
      refine wpAnyH_ready (rs := [3, 5]) (by kernel_rfl) (by simp) ?_
      refine AllReadyH.cons rfl (fun Kz hKz => ?_) (AllReadyH.cons rfl (fun Kz hKz => ?_) AllReadyH.nil)
      · (try simp only [List.getElem_toArray, List.getElem_cons_zero, List.getElem_cons_succ])
        go_simp
        (go_at_call 11; refine (to_Feed (h1.ext (Ext.trans E2 (by repeat' (first | (with_reducible exact Ext.refl _) | (with_reducible assumption) | (with_reducible refine Ext.drewN ?_ _) | (with_reducible refine Ext.drew ?_) | (with_reducible refine Ext.alloc ?_ _) | (with_reducible refine Ext.setCell ?_ ?_ _) | (with_reducible refine Ext.setRow ?_ ?_ _) | (with_reducible exact Nat.le_refl _) | (with_reducible refine Ext.trans ?_ (by assumption)) | omega)))) q1_0).mono ?_; rintro e wb ⟨_, rfl, hxwb, F1, g1⟩; obtain ⟨awq2, nwq2, kwq2, rfl⟩ := g1.rd.shape; have hzwb := hxwb.size; (try simp only [size_drew, World.size_alloc] at hzwb); have XAB : Ext wa wb := Ext.trans (by repeat' (first | (with_reducible exact Ext.refl _) | (with_reducible assumption) | (with_reducible refine Ext.drewN ?_ _) | (with_reducible refine Ext.drew ?_) | (with_reducible refine Ext.alloc ?_ _) | (with_reducible refine Ext.setCell ?_ ?_ _) | (with_reducible refine Ext.setRow ?_ ?_ _) | (with_reducible exact Nat.le_refl _) | (with_reducible refine Ext.trans ?_ (by assumption)) | omega)) hxwb; have XB : Ext w2 wb := XA.trans XAB; (first | (have KU := Blk.ext KU hxwb; have CU := KU.cell; have FU := KU.frozen; have LU := KU.lt) | (have KU : Blk wb wa.heap.size 48 #[.slice none 0 0, .slice none 0 0, .int .i64 0, .int .i64 0, .slice none 0 0, .slice none 0 0, .int .i64 0, .int .i64 0, .int .i64 0, .int .i64 0, .int .i64 0, .int .i64 0] := Blk.ext (Blk.new wa _ _) hxwb; have CU := KU.cell; have FU := KU.frozen; have LU := KU.lt) | skip))
        refine hKz.out _ _ (by (try dsimp only); exact extT) (fun hHeld => ?_)
        clear hKz Kz
        (try simp only [List.getElem_toArray, List.getElem_cons_zero, List.getElem_cons_succ, Act.put, List.setIfInBounds_toArray, List.set_cons_zero, List.set_cons_succ])
        refine wpAnyH_ready (rs := [4, 5]) (by kernel_rfl) (by simp) ?_
        refine AllReadyH.cons rfl (fun Kz hKz => ?_) (AllReadyH.cons rfl (fun Kz hKz => ?_) AllReadyH.nil)
        · (try simp only [List.getElem_toArray, List.getElem_cons_zero, List.getElem_cons_succ])
          go_simp
          (go_at_call 9; refine (sHeardFeed_k ((g0.rd).ext (Ext.trans XAB (by repeat' (first | (with_reducible exact Ext.refl _) | (with_reducible assumption) | (with_reducible refine Ext.drewN ?_ _) | (with_reducible refine Ext.drew ?_) | (with_reducible refine Ext.alloc ?_ _) | (with_reducible refine Ext.setCell ?_ ?_ _) | (with_reducible refine Ext.setRow ?_ ?_ _) | (with_reducible exact Nat.le_refl _) | (with_reducible refine Ext.trans ?_ (by assumption)) | omega)))) ((g1.rd).ext (by repeat' (first | (with_reducible exact Ext.refl _) | (with_reducible assumption) | (with_reducible refine Ext.drewN ?_ _) | (with_reducible refine Ext.drew ?_) | (with_reducible refine Ext.alloc ?_ _) | (with_reducible refine Ext.setCell ?_ ?_ _) | (with_reducible refine Ext.setRow ?_ ?_ _) | (with_reducible exact Nat.le_refl _) | (with_reducible refine Ext.trans ?_ (by assumption)) | omega)))).mono ?_; rintro e wc ⟨_, rfl, hxwc, Fr, gr⟩; obtain ⟨aw0, nw0, kw0, aw1, nw1, kw1, aw4, nw4, kw4, aw5, nw5, kw5, rfl⟩ := gr.rd.shape; have hzwc := hxwc.size; (try simp only [size_drew, World.size_alloc] at hzwc); have XBC : Ext wb wc := Ext.trans (by repeat' (first | (with_reducible exact Ext.refl _) | (with_reducible assumption) | (with_reducible refine Ext.drewN ?_ _) | (with_reducible refine Ext.drew ?_) | (with_reducible refine Ext.alloc ?_ _) | (with_reducible refine Ext.setCell ?_ ?_ _) | (with_reducible refine Ext.setRow ?_ ?_ _) | (with_reducible exact Nat.le_refl _) | (with_reducible refine Ext.trans ?_ (by assumption)) | omega)) hxwc; have XC : Ext w2 wc := XB.trans XBC; have lr := gr.low; (try simp only [size_drew, World.size_alloc] at lr); (first | (have KU := Blk.ext KU hxwc; have CU := KU.cell; have FU := KU.frozen; have LU := KU.lt) | (have KU : Blk wc wb.heap.size 48 #[.slice none 0 0, .slice none 0 0, .int .i64 0, .int .i64 0, .slice none 0 0, .slice none 0 0, .int .i64 0, .int .i64 0, .int .i64 0, .int .i64 0, .int .i64 0, .int .i64 0] := Blk.ext (Blk.new wb _ _) hxwc; have CU := KU.cell; have FU := KU.frozen; have LU := KU.lt) | skip))
          refine hKz.out _ _ (by (try dsimp only); exact extT) (fun hHeld => ?_)
          clear hKz Kz
          (try simp only [List.getElem_toArray, List.getElem_cons_zero, List.getElem_cons_succ, Act.put, List.setIfInBounds_toArray, List.set_cons_zero, List.set_cons_succ])
          refine wpAnyH_ready (rs := [5]) (by kernel_rfl) (by simp) ?_
          refine AllReadyH.cons rfl (fun Kz hKz => ?_) AllReadyH.nil
          (try simp only [List.getElem_toArray, List.getElem_cons_zero, List.getElem_cons_succ])
          go_simp
          refine hKz.out _ _ (by (try dsimp only); exact extT) (fun hHeld => ?_)
          clear hKz Kz
          (try simp only [List.getElem_toArray, List.getElem_cons_zero, List.getElem_cons_succ, Act.put, List.setIfInBounds_toArray, List.set_cons_zero, List.set_cons_succ])
          refine wpAnyH_ready (rs := [6]) (by kernel_rfl) (by simp) ?_
          refine AllReadyH.cons rfl (fun Kz hKz => ?_) AllReadyH.nil
          (try simp only [List.getElem_toArray, List.getElem_cons_zero, List.getElem_cons_succ])
          first | (rw [if_pos (by rfl)]; refine wp_store_row 48 (.tmp 6) (.tmp 28) (by rfl) _ #[.slice aw0 nw0 kw0, .slice aw1 nw1 kw1, .int .i64 (hfD S T).State.Index, .int .i64 (hfD S T).State.Time, .slice aw4 nw4 kw4, .slice aw5 nw5 kw5, .int .i64 (hfD S T).State.Lease.Holder, .int .i64 (hfD S T).State.Lease.Epoch, .int .i64 (hfD S T).State.Lease.Until, .int .i64 (hfD S T).Num, .int .i64 (hfD S T).Last, .int .i64 (hfD S T).Busy] (by rfl) (by kernel_rfl) 48 _ KU (by kernel_rfl) rfl (by kernel_rfl) ?_) | go_simp
          refine hKz.out _ _ (by (try dsimp only); exact extT) (fun hHeld => ?_)
          clear hKz Kz
          (try simp only [List.getElem_toArray, List.getElem_cons_zero, List.getElem_cons_succ, Act.put, List.setIfInBounds_toArray, List.set_cons_zero, List.set_cons_succ])
          refine wpAnyH_done (by kernel_rfl) ?_ _
          go_wp2_with fail
          go_meet
          case rel =>
            (try simp only [World.size_alloc, size_drew])
            first
              | (refine ⟨aw0, nw0, kw0, aw1, nw1, kw1, aw4, nw4, kw4, aw5, nw5, kw5, wc.heap.size, by with_reducible rfl, ?_⟩; exact ⟨XC.alloc _, XC.size, Blk.new _ _ _, Fr, (gr.ext ((Ext.refl _).alloc _)).mono (by first | omega | (simp only [World.size_alloc, size_drew]; omega)), fun k hk => ⟨by have := lr k hk; (try simp only [World.size_alloc]); omega, by have := lr k hk; omega⟩⟩)
              | (refine ⟨aw0, nw0, kw0, aw1, nw1, kw1, aw4, nw4, kw4, aw5, nw5, kw5, w2.heap.size, by with_reducible rfl, ?_⟩; refine ⟨by repeat' (first | (with_reducible exact Ext.refl _) | (with_reducible assumption) | (with_reducible refine Ext.drewN ?_ _) | (with_reducible refine Ext.drew ?_) | (with_reducible refine Ext.alloc ?_ _) | (with_reducible refine Ext.setCell ?_ ?_ _) | (with_reducible refine Ext.setRow ?_ ?_ _) | (with_reducible exact Nat.le_refl _) | (with_reducible refine Ext.trans ?_ (by assumption)) | omega), by omega, Blk.cast (by exact blkT) (by simp only [List.setIfInBounds_toArray, List.set_cons_zero, List.set_cons_succ]), Fr, (gr.upd (fs := [w2.heap.size]) (by first | (with_reducible exact rowU _ _ _) | exact updT) (fun k hk h => by have := lr k hk; simp at h; omega)).mono (by first | omega | (simp only [World.size_alloc, size_drew]; omega)), fun k hk => ⟨by have := lr k hk; (try simp only [size_setRow, World.size_setCell]); omega, by have := lr k hk; omega⟩⟩)
              | (refine ⟨aw0, nw0, kw0, aw1, nw1, kw1, aw4, nw4, kw4, aw5, nw5, kw5, wa.heap.size, by with_reducible rfl, ?_⟩; refine ⟨by repeat' (first | (with_reducible exact Ext.refl _) | (with_reducible assumption) | (with_reducible refine Ext.drewN ?_ _) | (with_reducible refine Ext.drew ?_) | (with_reducible refine Ext.alloc ?_ _) | (with_reducible refine Ext.setCell ?_ ?_ _) | (with_reducible refine Ext.setRow ?_ ?_ _) | (with_reducible exact Nat.le_refl _) | (with_reducible refine Ext.trans ?_ (by assumption)) | omega), by omega, Blk.cast (by exact blkT) (by simp only [List.setIfInBounds_toArray, List.set_cons_zero, List.set_cons_succ]), Fr, (gr.upd (fs := [wa.heap.size]) (by first | (with_reducible exact rowU _ _ _) | exact updT) (fun k hk h => by have := lr k hk; simp at h; omega)).mono (by first | omega | (simp only [World.size_alloc, size_drew]; omega)), fun k hk => ⟨by have := lr k hk; (try simp only [size_setRow, World.size_setCell]); omega, by have := lr k hk; omega⟩⟩)
              | (refine ⟨aw0, nw0, kw0, aw1, nw1, kw1, aw4, nw4, kw4, aw5, nw5, kw5, wb.heap.size, by with_reducible rfl, ?_⟩; refine ⟨by repeat' (first | (with_reducible exact Ext.refl _) | (with_reducible assumption) | (with_reducible refine Ext.drewN ?_ _) | (with_reducible refine Ext.drew ?_) | (with_reducible refine Ext.alloc ?_ _) | (with_reducible refine Ext.setCell ?_ ?_ _) | (with_reducible refine Ext.setRow ?_ ?_ _) | (with_reducible exact Nat.le_refl _) | (with_reducible refine Ext.trans ?_ (by assumption)) | omega), by omega, Blk.cast (by exact blkT) (by simp only [List.setIfInBounds_toArray, List.set_cons_zero, List.set_cons_succ]), Fr, (gr.upd (fs := [wb.heap.size]) (by first | (with_reducible exact rowU _ _ _) | exact updT) (fun k hk h => by have := lr k hk; simp at h; omega)).mono (by first | omega | (simp only [World.size_alloc, size_drew]; omega)), fun k hk => ⟨by have := lr k hk; (try simp only [size_setRow, World.size_setCell]); omega, by have := lr k hk; omega⟩⟩)
        · (try simp only [List.getElem_toArray, List.getElem_cons_zero, List.getElem_cons_succ])
          go_simp
          refine hKz.out _ _ (by (try dsimp only); exact extT) (fun hHeld => ?_)
          clear hKz Kz
          (try simp only [List.getElem_toArray, List.getElem_cons_zero, List.getElem_cons_succ, Act.put, List.setIfInBounds_toArray, List.set_cons_zero, List.set_cons_succ])
          refine wpAnyH_ready (rs := [4]) (by kernel_rfl) (by simp) ?_
          refine AllReadyH.cons rfl (fun Kz hKz => ?_) AllReadyH.nil
          (try simp only [List.getElem_toArray, List.getElem_cons_zero, List.getElem_cons_succ])
          go_simp
          (go_at_call 9; refine (sHeardFeed_k ((g0.rd).ext (Ext.trans XAB (by repeat' (first | (with_reducible exact Ext.refl _) | (with_reducible assumption) | (with_reducible refine Ext.drewN ?_ _) | (with_reducible refine Ext.drew ?_) | (with_reducible refine Ext.alloc ?_ _) | (with_reducible refine Ext.setCell ?_ ?_ _) | (with_reducible refine Ext.setRow ?_ ?_ _) | (with_reducible exact Nat.le_refl _) | (with_reducible refine Ext.trans ?_ (by assumption)) | omega)))) ((g1.rd).ext (by repeat' (first | (with_reducible exact Ext.refl _) | (with_reducible assumption) | (with_reducible refine Ext.drewN ?_ _) | (with_reducible refine Ext.drew ?_) | (with_reducible refine Ext.alloc ?_ _) | (with_reducible refine Ext.setCell ?_ ?_ _) | (with_reducible refine Ext.setRow ?_ ?_ _) | (with_reducible exact Nat.le_refl _) | (with_reducible refine Ext.trans ?_ (by assumption)) | omega)))).mono ?_; rintro e wc ⟨_, rfl, hxwc, Fr, gr⟩; obtain ⟨aw0, nw0, kw0, aw1, nw1, kw1, aw4, nw4, kw4, aw5, nw5, kw5, rfl⟩ := gr.rd.shape; have hzwc := hxwc.size; (try simp only [size_drew, World.size_alloc] at hzwc); have XBC : Ext wb wc := Ext.trans (by repeat' (first | (with_reducible exact Ext.refl _) | (with_reducible assumption) | (with_reducible refine Ext.drewN ?_ _) | (with_reducible refine Ext.drew ?_) | (with_reducible refine Ext.alloc ?_ _) | (with_reducible refine Ext.setCell ?_ ?_ _) | (with_reducible refine Ext.setRow ?_ ?_ _) | (with_reducible exact Nat.le_refl _) | (with_reducible refine Ext.trans ?_ (by assumption)) | omega)) hxwc; have XC : Ext w2 wc := XB.trans XBC; have lr := gr.low; (try simp only [size_drew, World.size_alloc] at lr); (first | (have KU := Blk.ext KU hxwc; have CU := KU.cell; have FU := KU.frozen; have LU := KU.lt) | (have KU : Blk wc wb.heap.size 48 #[.slice none 0 0, .slice none 0 0, .int .i64 0, .int .i64 0, .slice none 0 0, .slice none 0 0, .int .i64 0, .int .i64 0, .int .i64 0, .int .i64 0, .int .i64 0, .int .i64 0] := Blk.ext (Blk.new wb _ _) hxwc; have CU := KU.cell; have FU := KU.frozen; have LU := KU.lt) | skip))
          refine hKz.out _ _ (by (try dsimp only); exact extT) (fun hHeld => ?_)
          clear hKz Kz
          (try simp only [List.getElem_toArray, List.getElem_cons_zero, List.getElem_cons_succ, Act.put, List.setIfInBounds_toArray, List.set_cons_zero, List.set_cons_succ])
          refine wpAnyH_ready (rs := [6]) (by kernel_rfl) (by simp) ?_
          refine AllReadyH.cons rfl (fun Kz hKz => ?_) AllReadyH.nil
          (try simp only [List.getElem_toArray, List.getElem_cons_zero, List.getElem_cons_succ])
          first | (rw [if_pos (by rfl)]; refine wp_store_row 48 (.tmp 6) (.tmp 28) (by rfl) _ #[.slice aw0 nw0 kw0, .slice aw1 nw1 kw1, .int .i64 (hfD S T).State.Index, .int .i64 (hfD S T).State.Time, .slice aw4 nw4 kw4, .slice aw5 nw5 kw5, .int .i64 (hfD S T).State.Lease.Holder, .int .i64 (hfD S T).State.Lease.Epoch, .int .i64 (hfD S T).State.Lease.Until, .int .i64 (hfD S T).Num, .int .i64 (hfD S T).Last, .int .i64 (hfD S T).Busy] (by rfl) (by kernel_rfl) 48 _ KU (by kernel_rfl) rfl (by kernel_rfl) ?_) | go_simp
          refine hKz.out _ _ (by (try dsimp only); exact extT) (fun hHeld => ?_)
          clear hKz Kz
          (try simp only [List.getElem_toArray, List.getElem_cons_zero, List.getElem_cons_succ, Act.put, List.setIfInBounds_toArray, List.set_cons_zero, List.set_cons_succ])
          refine wpAnyH_done (by kernel_rfl) ?_ _
          go_wp2_with fail
          go_meet
          case rel =>
            (try simp only [World.size_alloc, size_drew])
            first
              | (refine ⟨aw0, nw0, kw0, aw1, nw1, kw1, aw4, nw4, kw4, aw5, nw5, kw5, wc.heap.size, by with_reducible rfl, ?_⟩; exact ⟨XC.alloc _, XC.size, Blk.new _ _ _, Fr, (gr.ext ((Ext.refl _).alloc _)).mono (by first | omega | (simp only [World.size_alloc, size_drew]; omega)), fun k hk => ⟨by have := lr k hk; (try simp only [World.size_alloc]); omega, by have := lr k hk; omega⟩⟩)
              | (refine ⟨aw0, nw0, kw0, aw1, nw1, kw1, aw4, nw4, kw4, aw5, nw5, kw5, w2.heap.size, by with_reducible rfl, ?_⟩; refine ⟨by repeat' (first | (with_reducible exact Ext.refl _) | (with_reducible assumption) | (with_reducible refine Ext.drewN ?_ _) | (with_reducible refine Ext.drew ?_) | (with_reducible refine Ext.alloc ?_ _) | (with_reducible refine Ext.setCell ?_ ?_ _) | (with_reducible refine Ext.setRow ?_ ?_ _) | (with_reducible exact Nat.le_refl _) | (with_reducible refine Ext.trans ?_ (by assumption)) | omega), by omega, Blk.cast (by exact blkT) (by simp only [List.setIfInBounds_toArray, List.set_cons_zero, List.set_cons_succ]), Fr, (gr.upd (fs := [w2.heap.size]) (by first | (with_reducible exact rowU _ _ _) | exact updT) (fun k hk h => by have := lr k hk; simp at h; omega)).mono (by first | omega | (simp only [World.size_alloc, size_drew]; omega)), fun k hk => ⟨by have := lr k hk; (try simp only [size_setRow, World.size_setCell]); omega, by have := lr k hk; omega⟩⟩)
              | (refine ⟨aw0, nw0, kw0, aw1, nw1, kw1, aw4, nw4, kw4, aw5, nw5, kw5, wa.heap.size, by with_reducible rfl, ?_⟩; refine ⟨by repeat' (first | (with_reducible exact Ext.refl _) | (with_reducible assumption) | (with_reducible refine Ext.drewN ?_ _) | (with_reducible refine Ext.drew ?_) | (with_reducible refine Ext.alloc ?_ _) | (with_reducible refine Ext.setCell ?_ ?_ _) | (with_reducible refine Ext.setRow ?_ ?_ _) | (with_reducible exact Nat.le_refl _) | (with_reducible refine Ext.trans ?_ (by assumption)) | omega), by omega, Blk.cast (by exact blkT) (by simp only [List.setIfInBounds_toArray, List.set_cons_zero, List.set_cons_succ]), Fr, (gr.upd (fs := [wa.heap.size]) (by first | (with_reducible exact rowU _ _ _) | exact updT) (fun k hk h => by have := lr k hk; simp at h; omega)).mono (by first | omega | (simp only [World.size_alloc, size_drew]; omega)), fun k hk => ⟨by have := lr k hk; (try simp only [size_setRow, World.size_setCell]); omega, by have := lr k hk; omega⟩⟩)
              | (refine ⟨aw0, nw0, kw0, aw1, nw1, kw1, aw4, nw4, kw4, aw5, nw5, kw5, wb.heap.size, by with_reducible rfl, ?_⟩; refine ⟨by repeat' (first | (with_reducible exact Ext.refl _) | (with_reducible assumption) | (with_reducible refine Ext.drewN ?_ _) | (with_reducible refine Ext.drew ?_) | (with_reducible refine Ext.alloc ?_ _) | (with_reducible refine Ext.setCell ?_ ?_ _) | (with_reducible refine Ext.setRow ?_ ?_ _) | (with_reducible exact Nat.le_refl _) | (with_reducible refine Ext.trans ?_ (by assumption)) | omega), by omega, Blk.cast (by exact blkT) (by simp only [List.setIfInBounds_toArray, List.set_cons_zero, List.set_cons_succ]), Fr, (gr.upd (fs := [wb.heap.size]) (by first | (with_reducible exact rowU _ _ _) | exact updT) (fun k hk h => by have := lr k hk; simp at h; omega)).mono (by first | omega | (simp only [World.size_alloc, size_drew]; omega)), fun k hk => ⟨by have := lr k hk; (try simp only [size_setRow, World.size_setCell]); omega, by have := lr k hk; omega⟩⟩)
      · (try simp only [List.getElem_toArray, List.getElem_cons_zero, List.getElem_cons_succ])
        go_simp
        refine hKz.out _ _ (by (try dsimp only); exact extT) (fun hHeld => ?_)
        clear hKz Kz
        (try simp only [List.getElem_toArray, List.getElem_cons_zero, List.getElem_cons_succ, Act.put, List.setIfInBounds_toArray, List.set_cons_zero, List.set_cons_succ])
        refine wpAnyH_ready (rs := [3]) (by kernel_rfl) (by simp) ?_
        refine AllReadyH.cons rfl (fun Kz hKz => ?_) AllReadyH.nil
        (try simp only [List.getElem_toArray, List.getElem_cons_zero, List.getElem_cons_succ])
        go_simp
        (go_at_call 11; refine (to_Feed (h1.ext (Ext.trans E2 (by repeat' (first | (with_reducible exact Ext.refl _) | (with_reducible assumption) | (with_reducible refine Ext.drewN ?_ _) | (with_reducible refine Ext.drew ?_) | (with_reducible refine Ext.alloc ?_ _) | (with_reducible refine Ext.setCell ?_ ?_ _) | (with_reducible refine Ext.setRow ?_ ?_ _) | (with_reducible exact Nat.le_refl _) | (with_reducible refine Ext.trans ?_ (by assumption)) | omega)))) q1_0).mono ?_; rintro e wb ⟨_, rfl, hxwb, F1, g1⟩; obtain ⟨awq2, nwq2, kwq2, rfl⟩ := g1.rd.shape; have hzwb := hxwb.size; (try simp only [size_drew, World.size_alloc] at hzwb); have XAB : Ext wa wb := Ext.trans (by repeat' (first | (with_reducible exact Ext.refl _) | (with_reducible assumption) | (with_reducible refine Ext.drewN ?_ _) | (with_reducible refine Ext.drew ?_) | (with_reducible refine Ext.alloc ?_ _) | (with_reducible refine Ext.setCell ?_ ?_ _) | (with_reducible refine Ext.setRow ?_ ?_ _) | (with_reducible exact Nat.le_refl _) | (with_reducible refine Ext.trans ?_ (by assumption)) | omega)) hxwb; have XB : Ext w2 wb := XA.trans XAB; (first | (have KU := Blk.ext KU hxwb; have CU := KU.cell; have FU := KU.frozen; have LU := KU.lt) | (have KU : Blk wb wa.heap.size 48 #[.slice none 0 0, .slice none 0 0, .int .i64 0, .int .i64 0, .slice none 0 0, .slice none 0 0, .int .i64 0, .int .i64 0, .int .i64 0, .int .i64 0, .int .i64 0, .int .i64 0] := Blk.ext (Blk.new wa _ _) hxwb; have CU := KU.cell; have FU := KU.frozen; have LU := KU.lt) | skip))
        refine hKz.out _ _ (by (try dsimp only); exact extT) (fun hHeld => ?_)
        clear hKz Kz
        (try simp only [List.getElem_toArray, List.getElem_cons_zero, List.getElem_cons_succ, Act.put, List.setIfInBounds_toArray, List.set_cons_zero, List.set_cons_succ])
        refine wpAnyH_ready (rs := [4]) (by kernel_rfl) (by simp) ?_
        refine AllReadyH.cons rfl (fun Kz hKz => ?_) AllReadyH.nil
        (try simp only [List.getElem_toArray, List.getElem_cons_zero, List.getElem_cons_succ])
        go_simp
        (go_at_call 9; refine (sHeardFeed_k ((g0.rd).ext (Ext.trans XAB (by repeat' (first | (with_reducible exact Ext.refl _) | (with_reducible assumption) | (with_reducible refine Ext.drewN ?_ _) | (with_reducible refine Ext.drew ?_) | (with_reducible refine Ext.alloc ?_ _) | (with_reducible refine Ext.setCell ?_ ?_ _) | (with_reducible refine Ext.setRow ?_ ?_ _) | (with_reducible exact Nat.le_refl _) | (with_reducible refine Ext.trans ?_ (by assumption)) | omega)))) ((g1.rd).ext (by repeat' (first | (with_reducible exact Ext.refl _) | (with_reducible assumption) | (with_reducible refine Ext.drewN ?_ _) | (with_reducible refine Ext.drew ?_) | (with_reducible refine Ext.alloc ?_ _) | (with_reducible refine Ext.setCell ?_ ?_ _) | (with_reducible refine Ext.setRow ?_ ?_ _) | (with_reducible exact Nat.le_refl _) | (with_reducible refine Ext.trans ?_ (by assumption)) | omega)))).mono ?_; rintro e wc ⟨_, rfl, hxwc, Fr, gr⟩; obtain ⟨aw0, nw0, kw0, aw1, nw1, kw1, aw4, nw4, kw4, aw5, nw5, kw5, rfl⟩ := gr.rd.shape; have hzwc := hxwc.size; (try simp only [size_drew, World.size_alloc] at hzwc); have XBC : Ext wb wc := Ext.trans (by repeat' (first | (with_reducible exact Ext.refl _) | (with_reducible assumption) | (with_reducible refine Ext.drewN ?_ _) | (with_reducible refine Ext.drew ?_) | (with_reducible refine Ext.alloc ?_ _) | (with_reducible refine Ext.setCell ?_ ?_ _) | (with_reducible refine Ext.setRow ?_ ?_ _) | (with_reducible exact Nat.le_refl _) | (with_reducible refine Ext.trans ?_ (by assumption)) | omega)) hxwc; have XC : Ext w2 wc := XB.trans XBC; have lr := gr.low; (try simp only [size_drew, World.size_alloc] at lr); (first | (have KU := Blk.ext KU hxwc; have CU := KU.cell; have FU := KU.frozen; have LU := KU.lt) | (have KU : Blk wc wb.heap.size 48 #[.slice none 0 0, .slice none 0 0, .int .i64 0, .int .i64 0, .slice none 0 0, .slice none 0 0, .int .i64 0, .int .i64 0, .int .i64 0, .int .i64 0, .int .i64 0, .int .i64 0] := Blk.ext (Blk.new wb _ _) hxwc; have CU := KU.cell; have FU := KU.frozen; have LU := KU.lt) | skip))
        refine hKz.out _ _ (by (try dsimp only); exact extT) (fun hHeld => ?_)
        clear hKz Kz
        (try simp only [List.getElem_toArray, List.getElem_cons_zero, List.getElem_cons_succ, Act.put, List.setIfInBounds_toArray, List.set_cons_zero, List.set_cons_succ])
        refine wpAnyH_ready (rs := [6]) (by kernel_rfl) (by simp) ?_
        refine AllReadyH.cons rfl (fun Kz hKz => ?_) AllReadyH.nil
        (try simp only [List.getElem_toArray, List.getElem_cons_zero, List.getElem_cons_succ])
        first | (rw [if_pos (by rfl)]; refine wp_store_row 48 (.tmp 6) (.tmp 28) (by rfl) _ #[.slice aw0 nw0 kw0, .slice aw1 nw1 kw1, .int .i64 (hfD S T).State.Index, .int .i64 (hfD S T).State.Time, .slice aw4 nw4 kw4, .slice aw5 nw5 kw5, .int .i64 (hfD S T).State.Lease.Holder, .int .i64 (hfD S T).State.Lease.Epoch, .int .i64 (hfD S T).State.Lease.Until, .int .i64 (hfD S T).Num, .int .i64 (hfD S T).Last, .int .i64 (hfD S T).Busy] (by rfl) (by kernel_rfl) 48 _ KU (by kernel_rfl) rfl (by kernel_rfl) ?_) | go_simp
        refine hKz.out _ _ (by (try dsimp only); exact extT) (fun hHeld => ?_)
        clear hKz Kz
        (try simp only [List.getElem_toArray, List.getElem_cons_zero, List.getElem_cons_succ, Act.put, List.setIfInBounds_toArray, List.set_cons_zero, List.set_cons_succ])
        refine wpAnyH_done (by kernel_rfl) ?_ _
        go_wp2_with fail
        go_meet
        case rel =>
          (try simp only [World.size_alloc, size_drew])
          first
            | (refine ⟨aw0, nw0, kw0, aw1, nw1, kw1, aw4, nw4, kw4, aw5, nw5, kw5, wc.heap.size, by with_reducible rfl, ?_⟩; exact ⟨XC.alloc _, XC.size, Blk.new _ _ _, Fr, (gr.ext ((Ext.refl _).alloc _)).mono (by first | omega | (simp only [World.size_alloc, size_drew]; omega)), fun k hk => ⟨by have := lr k hk; (try simp only [World.size_alloc]); omega, by have := lr k hk; omega⟩⟩)
            | (refine ⟨aw0, nw0, kw0, aw1, nw1, kw1, aw4, nw4, kw4, aw5, nw5, kw5, w2.heap.size, by with_reducible rfl, ?_⟩; refine ⟨by repeat' (first | (with_reducible exact Ext.refl _) | (with_reducible assumption) | (with_reducible refine Ext.drewN ?_ _) | (with_reducible refine Ext.drew ?_) | (with_reducible refine Ext.alloc ?_ _) | (with_reducible refine Ext.setCell ?_ ?_ _) | (with_reducible refine Ext.setRow ?_ ?_ _) | (with_reducible exact Nat.le_refl _) | (with_reducible refine Ext.trans ?_ (by assumption)) | omega), by omega, Blk.cast (by exact blkT) (by simp only [List.setIfInBounds_toArray, List.set_cons_zero, List.set_cons_succ]), Fr, (gr.upd (fs := [w2.heap.size]) (by first | (with_reducible exact rowU _ _ _) | exact updT) (fun k hk h => by have := lr k hk; simp at h; omega)).mono (by first | omega | (simp only [World.size_alloc, size_drew]; omega)), fun k hk => ⟨by have := lr k hk; (try simp only [size_setRow, World.size_setCell]); omega, by have := lr k hk; omega⟩⟩)
            | (refine ⟨aw0, nw0, kw0, aw1, nw1, kw1, aw4, nw4, kw4, aw5, nw5, kw5, wa.heap.size, by with_reducible rfl, ?_⟩; refine ⟨by repeat' (first | (with_reducible exact Ext.refl _) | (with_reducible assumption) | (with_reducible refine Ext.drewN ?_ _) | (with_reducible refine Ext.drew ?_) | (with_reducible refine Ext.alloc ?_ _) | (with_reducible refine Ext.setCell ?_ ?_ _) | (with_reducible refine Ext.setRow ?_ ?_ _) | (with_reducible exact Nat.le_refl _) | (with_reducible refine Ext.trans ?_ (by assumption)) | omega), by omega, Blk.cast (by exact blkT) (by simp only [List.setIfInBounds_toArray, List.set_cons_zero, List.set_cons_succ]), Fr, (gr.upd (fs := [wa.heap.size]) (by first | (with_reducible exact rowU _ _ _) | exact updT) (fun k hk h => by have := lr k hk; simp at h; omega)).mono (by first | omega | (simp only [World.size_alloc, size_drew]; omega)), fun k hk => ⟨by have := lr k hk; (try simp only [size_setRow, World.size_setCell]); omega, by have := lr k hk; omega⟩⟩)
            | (refine ⟨aw0, nw0, kw0, aw1, nw1, kw1, aw4, nw4, kw4, aw5, nw5, kw5, wb.heap.size, by with_reducible rfl, ?_⟩; refine ⟨by repeat' (first | (with_reducible exact Ext.refl _) | (with_reducible assumption) | (with_reducible refine Ext.drewN ?_ _) | (with_reducible refine Ext.drew ?_) | (with_reducible refine Ext.alloc ?_ _) | (with_reducible refine Ext.setCell ?_ ?_ _) | (with_reducible refine Ext.setRow ?_ ?_ _) | (with_reducible exact Nat.le_refl _) | (with_reducible refine Ext.trans ?_ (by assumption)) | omega), by omega, Blk.cast (by exact blkT) (by simp only [List.setIfInBounds_toArray, List.set_cons_zero, List.set_cons_succ]), Fr, (gr.upd (fs := [wb.heap.size]) (by first | (with_reducible exact rowU _ _ _) | exact updT) (fun k hk h => by have := lr k hk; simp at h; omega)).mono (by first | omega | (simp only [World.size_alloc, size_drew]; omega)), fun k hk => ⟨by have := lr k hk; (try simp only [size_setRow, World.size_setCell]); omega, by have := lr k hk; omega⟩⟩)
    · (try simp only [List.getElem_toArray, List.getElem_cons_zero, List.getElem_cons_succ])
      go_simp
      refine hKz.out _ _ (by (try dsimp only); exact extT) (fun hHeld => ?_)
      clear hKz Kz
      (try simp only [List.getElem_toArray, List.getElem_cons_zero, List.getElem_cons_succ, Act.put, List.setIfInBounds_toArray, List.set_cons_zero, List.set_cons_succ])
      refine wpAnyH_ready (rs := [1]) (by kernel_rfl) (by simp) ?_
      refine AllReadyH.cons rfl (fun Kz hKz => ?_) AllReadyH.nil
      (try simp only [List.getElem_toArray, List.getElem_cons_zero, List.getElem_cons_succ])
      go_simp
      (go_at_call 10; refine (to_Store (h0.ext (Ext.trans E2 (by repeat' (first | (with_reducible exact Ext.refl _) | (with_reducible assumption) | (with_reducible refine Ext.drewN ?_ _) | (with_reducible refine Ext.drew ?_) | (with_reducible refine Ext.alloc ?_ _) | (with_reducible refine Ext.setCell ?_ ?_ _) | (with_reducible refine Ext.setRow ?_ ?_ _) | (with_reducible exact Nat.le_refl _) | (with_reducible refine Ext.trans ?_ (by assumption)) | omega)))) q0_0 q0_1 q0_2 q0_3).mono ?_; rintro e wa ⟨_, rfl, hxwa, F0, g0⟩; obtain ⟨awp0, nwp0, kwp0, awp1, nwp1, kwp1, awp4, nwp4, kwp4, awp5, nwp5, kwp5, rfl⟩ := g0.rd.shape; have hzwa := hxwa.size; (try simp only [size_drew, World.size_alloc] at hzwa); have XA : Ext w2 wa := Ext.trans (by repeat' (first | (with_reducible exact Ext.refl _) | (with_reducible assumption) | (with_reducible refine Ext.drewN ?_ _) | (with_reducible refine Ext.drew ?_) | (with_reducible refine Ext.alloc ?_ _) | (with_reducible refine Ext.setCell ?_ ?_ _) | (with_reducible refine Ext.setRow ?_ ?_ _) | (with_reducible exact Nat.le_refl _) | (with_reducible refine Ext.trans ?_ (by assumption)) | omega)) hxwa; (first | (have KU := Blk.ext KU hxwa; have CU := KU.cell; have FU := KU.frozen; have LU := KU.lt) | (have KU : Blk wa w2.heap.size 48 #[.slice none 0 0, .slice none 0 0, .int .i64 0, .int .i64 0, .slice none 0 0, .slice none 0 0, .int .i64 0, .int .i64 0, .int .i64 0, .int .i64 0, .int .i64 0, .int .i64 0] := Blk.ext (Blk.new w2.drew _ _) hxwa; have CU := KU.cell; have FU := KU.frozen; have LU := KU.lt) | skip))
      refine hKz.out _ _ (by (try dsimp only); exact extT) (fun hHeld => ?_)
      clear hKz Kz
      (try simp only [List.getElem_toArray, List.getElem_cons_zero, List.getElem_cons_succ, Act.put, List.setIfInBounds_toArray, List.set_cons_zero, List.set_cons_succ])
      refine wpAnyH_ready (rs := [3]) (by kernel_rfl) (by simp) ?_
      refine AllReadyH.cons rfl (fun Kz hKz => ?_) AllReadyH.nil
      (try simp only [List.getElem_toArray, List.getElem_cons_zero, List.getElem_cons_succ])
      go_simp
      (go_at_call 11; refine (to_Feed (h1.ext (Ext.trans E2 (by repeat' (first | (with_reducible exact Ext.refl _) | (with_reducible assumption) | (with_reducible refine Ext.drewN ?_ _) | (with_reducible refine Ext.drew ?_) | (with_reducible refine Ext.alloc ?_ _) | (with_reducible refine Ext.setCell ?_ ?_ _) | (with_reducible refine Ext.setRow ?_ ?_ _) | (with_reducible exact Nat.le_refl _) | (with_reducible refine Ext.trans ?_ (by assumption)) | omega)))) q1_0).mono ?_; rintro e wb ⟨_, rfl, hxwb, F1, g1⟩; obtain ⟨awq2, nwq2, kwq2, rfl⟩ := g1.rd.shape; have hzwb := hxwb.size; (try simp only [size_drew, World.size_alloc] at hzwb); have XAB : Ext wa wb := Ext.trans (by repeat' (first | (with_reducible exact Ext.refl _) | (with_reducible assumption) | (with_reducible refine Ext.drewN ?_ _) | (with_reducible refine Ext.drew ?_) | (with_reducible refine Ext.alloc ?_ _) | (with_reducible refine Ext.setCell ?_ ?_ _) | (with_reducible refine Ext.setRow ?_ ?_ _) | (with_reducible exact Nat.le_refl _) | (with_reducible refine Ext.trans ?_ (by assumption)) | omega)) hxwb; have XB : Ext w2 wb := XA.trans XAB; (first | (have KU := Blk.ext KU hxwb; have CU := KU.cell; have FU := KU.frozen; have LU := KU.lt) | (have KU : Blk wb wa.heap.size 48 #[.slice none 0 0, .slice none 0 0, .int .i64 0, .int .i64 0, .slice none 0 0, .slice none 0 0, .int .i64 0, .int .i64 0, .int .i64 0, .int .i64 0, .int .i64 0, .int .i64 0] := Blk.ext (Blk.new wa _ _) hxwb; have CU := KU.cell; have FU := KU.frozen; have LU := KU.lt) | skip))
      refine hKz.out _ _ (by (try dsimp only); exact extT) (fun hHeld => ?_)
      clear hKz Kz
      (try simp only [List.getElem_toArray, List.getElem_cons_zero, List.getElem_cons_succ, Act.put, List.setIfInBounds_toArray, List.set_cons_zero, List.set_cons_succ])
      refine wpAnyH_ready (rs := [4]) (by kernel_rfl) (by simp) ?_
      refine AllReadyH.cons rfl (fun Kz hKz => ?_) AllReadyH.nil
      (try simp only [List.getElem_toArray, List.getElem_cons_zero, List.getElem_cons_succ])
      go_simp
      (go_at_call 9; refine (sHeardFeed_k ((g0.rd).ext (Ext.trans XAB (by repeat' (first | (with_reducible exact Ext.refl _) | (with_reducible assumption) | (with_reducible refine Ext.drewN ?_ _) | (with_reducible refine Ext.drew ?_) | (with_reducible refine Ext.alloc ?_ _) | (with_reducible refine Ext.setCell ?_ ?_ _) | (with_reducible refine Ext.setRow ?_ ?_ _) | (with_reducible exact Nat.le_refl _) | (with_reducible refine Ext.trans ?_ (by assumption)) | omega)))) ((g1.rd).ext (by repeat' (first | (with_reducible exact Ext.refl _) | (with_reducible assumption) | (with_reducible refine Ext.drewN ?_ _) | (with_reducible refine Ext.drew ?_) | (with_reducible refine Ext.alloc ?_ _) | (with_reducible refine Ext.setCell ?_ ?_ _) | (with_reducible refine Ext.setRow ?_ ?_ _) | (with_reducible exact Nat.le_refl _) | (with_reducible refine Ext.trans ?_ (by assumption)) | omega)))).mono ?_; rintro e wc ⟨_, rfl, hxwc, Fr, gr⟩; obtain ⟨aw0, nw0, kw0, aw1, nw1, kw1, aw4, nw4, kw4, aw5, nw5, kw5, rfl⟩ := gr.rd.shape; have hzwc := hxwc.size; (try simp only [size_drew, World.size_alloc] at hzwc); have XBC : Ext wb wc := Ext.trans (by repeat' (first | (with_reducible exact Ext.refl _) | (with_reducible assumption) | (with_reducible refine Ext.drewN ?_ _) | (with_reducible refine Ext.drew ?_) | (with_reducible refine Ext.alloc ?_ _) | (with_reducible refine Ext.setCell ?_ ?_ _) | (with_reducible refine Ext.setRow ?_ ?_ _) | (with_reducible exact Nat.le_refl _) | (with_reducible refine Ext.trans ?_ (by assumption)) | omega)) hxwc; have XC : Ext w2 wc := XB.trans XBC; have lr := gr.low; (try simp only [size_drew, World.size_alloc] at lr); (first | (have KU := Blk.ext KU hxwc; have CU := KU.cell; have FU := KU.frozen; have LU := KU.lt) | (have KU : Blk wc wb.heap.size 48 #[.slice none 0 0, .slice none 0 0, .int .i64 0, .int .i64 0, .slice none 0 0, .slice none 0 0, .int .i64 0, .int .i64 0, .int .i64 0, .int .i64 0, .int .i64 0, .int .i64 0] := Blk.ext (Blk.new wb _ _) hxwc; have CU := KU.cell; have FU := KU.frozen; have LU := KU.lt) | skip))
      refine hKz.out _ _ (by (try dsimp only); exact extT) (fun hHeld => ?_)
      clear hKz Kz
      (try simp only [List.getElem_toArray, List.getElem_cons_zero, List.getElem_cons_succ, Act.put, List.setIfInBounds_toArray, List.set_cons_zero, List.set_cons_succ])
      refine wpAnyH_ready (rs := [6]) (by kernel_rfl) (by simp) ?_
      refine AllReadyH.cons rfl (fun Kz hKz => ?_) AllReadyH.nil
      (try simp only [List.getElem_toArray, List.getElem_cons_zero, List.getElem_cons_succ])
      first | (rw [if_pos (by rfl)]; refine wp_store_row 48 (.tmp 6) (.tmp 28) (by rfl) _ #[.slice aw0 nw0 kw0, .slice aw1 nw1 kw1, .int .i64 (hfD S T).State.Index, .int .i64 (hfD S T).State.Time, .slice aw4 nw4 kw4, .slice aw5 nw5 kw5, .int .i64 (hfD S T).State.Lease.Holder, .int .i64 (hfD S T).State.Lease.Epoch, .int .i64 (hfD S T).State.Lease.Until, .int .i64 (hfD S T).Num, .int .i64 (hfD S T).Last, .int .i64 (hfD S T).Busy] (by rfl) (by kernel_rfl) 48 _ KU (by kernel_rfl) rfl (by kernel_rfl) ?_) | go_simp
      refine hKz.out _ _ (by (try dsimp only); exact extT) (fun hHeld => ?_)
      clear hKz Kz
      (try simp only [List.getElem_toArray, List.getElem_cons_zero, List.getElem_cons_succ, Act.put, List.setIfInBounds_toArray, List.set_cons_zero, List.set_cons_succ])
      refine wpAnyH_done (by kernel_rfl) ?_ _
      go_wp2_with fail
      go_meet
      case rel =>
        (try simp only [World.size_alloc, size_drew])
        first
          | (refine ⟨aw0, nw0, kw0, aw1, nw1, kw1, aw4, nw4, kw4, aw5, nw5, kw5, wc.heap.size, by with_reducible rfl, ?_⟩; exact ⟨XC.alloc _, XC.size, Blk.new _ _ _, Fr, (gr.ext ((Ext.refl _).alloc _)).mono (by first | omega | (simp only [World.size_alloc, size_drew]; omega)), fun k hk => ⟨by have := lr k hk; (try simp only [World.size_alloc]); omega, by have := lr k hk; omega⟩⟩)
          | (refine ⟨aw0, nw0, kw0, aw1, nw1, kw1, aw4, nw4, kw4, aw5, nw5, kw5, w2.heap.size, by with_reducible rfl, ?_⟩; refine ⟨by repeat' (first | (with_reducible exact Ext.refl _) | (with_reducible assumption) | (with_reducible refine Ext.drewN ?_ _) | (with_reducible refine Ext.drew ?_) | (with_reducible refine Ext.alloc ?_ _) | (with_reducible refine Ext.setCell ?_ ?_ _) | (with_reducible refine Ext.setRow ?_ ?_ _) | (with_reducible exact Nat.le_refl _) | (with_reducible refine Ext.trans ?_ (by assumption)) | omega), by omega, Blk.cast (by exact blkT) (by simp only [List.setIfInBounds_toArray, List.set_cons_zero, List.set_cons_succ]), Fr, (gr.upd (fs := [w2.heap.size]) (by first | (with_reducible exact rowU _ _ _) | exact updT) (fun k hk h => by have := lr k hk; simp at h; omega)).mono (by first | omega | (simp only [World.size_alloc, size_drew]; omega)), fun k hk => ⟨by have := lr k hk; (try simp only [size_setRow, World.size_setCell]); omega, by have := lr k hk; omega⟩⟩)
          | (refine ⟨aw0, nw0, kw0, aw1, nw1, kw1, aw4, nw4, kw4, aw5, nw5, kw5, wa.heap.size, by with_reducible rfl, ?_⟩; refine ⟨by repeat' (first | (with_reducible exact Ext.refl _) | (with_reducible assumption) | (with_reducible refine Ext.drewN ?_ _) | (with_reducible refine Ext.drew ?_) | (with_reducible refine Ext.alloc ?_ _) | (with_reducible refine Ext.setCell ?_ ?_ _) | (with_reducible refine Ext.setRow ?_ ?_ _) | (with_reducible exact Nat.le_refl _) | (with_reducible refine Ext.trans ?_ (by assumption)) | omega), by omega, Blk.cast (by exact blkT) (by simp only [List.setIfInBounds_toArray, List.set_cons_zero, List.set_cons_succ]), Fr, (gr.upd (fs := [wa.heap.size]) (by first | (with_reducible exact rowU _ _ _) | exact updT) (fun k hk h => by have := lr k hk; simp at h; omega)).mono (by first | omega | (simp only [World.size_alloc, size_drew]; omega)), fun k hk => ⟨by have := lr k hk; (try simp only [size_setRow, World.size_setCell]); omega, by have := lr k hk; omega⟩⟩)
          | (refine ⟨aw0, nw0, kw0, aw1, nw1, kw1, aw4, nw4, kw4, aw5, nw5, kw5, wb.heap.size, by with_reducible rfl, ?_⟩; refine ⟨by repeat' (first | (with_reducible exact Ext.refl _) | (with_reducible assumption) | (with_reducible refine Ext.drewN ?_ _) | (with_reducible refine Ext.drew ?_) | (with_reducible refine Ext.alloc ?_ _) | (with_reducible refine Ext.setCell ?_ ?_ _) | (with_reducible refine Ext.setRow ?_ ?_ _) | (with_reducible exact Nat.le_refl _) | (with_reducible refine Ext.trans ?_ (by assumption)) | omega), by omega, Blk.cast (by exact blkT) (by simp only [List.setIfInBounds_toArray, List.set_cons_zero, List.set_cons_succ]), Fr, (gr.upd (fs := [wb.heap.size]) (by first | (with_reducible exact rowU _ _ _) | exact updT) (fun k hk h => by have := lr k hk; simp at h; omega)).mono (by first | omega | (simp only [World.size_alloc, size_drew]; omega)), fun k hk => ⟨by have := lr k hk; (try simp only [size_setRow, World.size_setCell]); omega, by have := lr k hk; omega⟩⟩)
  case rest =>
    revert wc; intro w3 hcut
    obtain ⟨aw0, nw0, kw0, aw1, nw1, kw1, aw4, nw4, kw4, aw5, nw5, kw5, bw, rfl, X3, hgew, Bw, Fw, gw, hlow⟩ := hcut
    have lw : ∀ k, k ∈ Fw → w2.heap.size ≤ k ∧ k < w3.heap.size := fun k hk => ⟨(gw.low k hk).1, (hlow k hk).1⟩
    have hb2w : ∀ k, k ∈ Fw → k ≠ bw := fun k hk => (hlow k hk).2
    clear hlow
    have MBw := Bw.lt
    have Z3 := X3.size; have E3 : Ext w w3 := E2.trans X3
    replace Ba := Ba.ext X3
    replace Bb := Bb.ext X3
    have CBa := Ba.cell; have LBa := Ba.lt
    have CBb := Bb.cell; have LBb := Bb.lt
    have CBw := Bw.cell; have LBw := Bw.lt
    go_wp2_with fail
    refine (to_Store (h0.ext (by repeat' (first | (with_reducible exact Ext.refl _) | (with_reducible assumption) | (with_reducible refine Ext.drewN ?_ _) | (with_reducible refine Ext.drew ?_) | (with_reducible refine Ext.alloc ?_ _) | (with_reducible refine Ext.setCell ?_ ?_ _) | (with_reducible refine Ext.setRow ?_ ?_ _) | (with_reducible exact Nat.le_refl _) | (with_reducible refine Ext.trans ?_ (by assumption)) | omega))) q0_0 q0_1 q0_2 q0_3).mono ?_
    rintro e w4 ⟨_, rfl, hx4, Fx, gx⟩
    obtain ⟨ax0, nx0, kx0, ax1, nx1, kx1, ax4, nx4, kx4, ax5, nx5, kx5, rfl⟩ := gx.rd.shape
    have lx := gx.low; (try simp only [World.size_alloc] at lx)
    have X4 : Ext w3 w4 := by repeat' (first | (with_reducible exact Ext.refl _) | (with_reducible assumption) | (with_reducible refine Ext.drewN ?_ _) | (with_reducible refine Ext.drew ?_) | (with_reducible refine Ext.alloc ?_ _) | (with_reducible refine Ext.setCell ?_ ?_ _) | (with_reducible refine Ext.setRow ?_ ?_ _) | (with_reducible exact Nat.le_refl _) | (with_reducible refine Ext.trans ?_ (by assumption)) | omega)
    have Z4 := X4.size
    have E4 : Ext w w4 := E3.trans X4
    replace Ba := Ba.ext X4
    replace Bb := Bb.ext X4
    replace Bw := Bw.ext X4
    replace gw := gw.ext X4
    clear hx4
    clear CBa LBa CBb LBb CBw LBw
    have CBa := Ba.cell; have LBa := Ba.lt
    have CBb := Bb.cell; have LBb := Bb.lt
    have CBw := Bw.cell; have LBw := Bw.lt
    go_wp2_with fail
    refine (to_Feed (h1.ext (by repeat' (first | (with_reducible exact Ext.refl _) | (with_reducible assumption) | (with_reducible refine Ext.drewN ?_ _) | (with_reducible refine Ext.drew ?_) | (with_reducible refine Ext.alloc ?_ _) | (with_reducible refine Ext.setCell ?_ ?_ _) | (with_reducible refine Ext.setRow ?_ ?_ _) | (with_reducible exact Nat.le_refl _) | (with_reducible refine Ext.trans ?_ (by assumption)) | omega))) q1_0).mono ?_
    rintro e w5 ⟨_, rfl, hx5, Fy, gy⟩
    obtain ⟨ay2, ny2, ky2, rfl⟩ := gy.rd.shape
    have ly := gy.low; (try simp only [World.size_alloc] at ly)
    have X5 : Ext w4 w5 := by repeat' (first | (with_reducible exact Ext.refl _) | (with_reducible assumption) | (with_reducible refine Ext.drewN ?_ _) | (with_reducible refine Ext.drew ?_) | (with_reducible refine Ext.alloc ?_ _) | (with_reducible refine Ext.setCell ?_ ?_ _) | (with_reducible refine Ext.setRow ?_ ?_ _) | (with_reducible exact Nat.le_refl _) | (with_reducible refine Ext.trans ?_ (by assumption)) | omega)
    have Bx : Blk w5 w4.heap.size 48 #[.slice ax0 nx0 kx0, .slice ax1 nx1 kx1, .int .i64 S.State.Index, .int .i64 S.State.Time, .slice ax4 nx4 kx4, .slice ax5 nx5 kx5, .int .i64 S.State.Lease.Holder, .int .i64 S.State.Lease.Epoch, .int .i64 S.State.Lease.Until, .int .i64 S.Num, .int .i64 S.Last, .int .i64 S.Busy] := (Blk.new w4 48 #[.slice ax0 nx0 kx0, .slice ax1 nx1 kx1, .int .i64 S.State.Index, .int .i64 S.State.Time, .slice ax4 nx4 kx4, .slice ax5 nx5 kx5, .int .i64 S.State.Lease.Holder, .int .i64 S.State.Lease.Epoch, .int .i64 S.State.Lease.Until, .int .i64 S.Num, .int .i64 S.Last, .int .i64 S.Busy]).ext hx5
    have MBx := Bx.lt
    have Z5 := X5.size
    have E5 : Ext w w5 := E4.trans X5
    replace Ba := Ba.ext X5
    replace Bb := Bb.ext X5
    replace Bw := Bw.ext X5
    replace gw := gw.ext X5
    replace gx := gx.ext X5
    clear hx5
    clear CBa LBa CBb LBb CBw LBw
    have CBa := Ba.cell; have LBa := Ba.lt
    have CBb := Bb.cell; have LBb := Bb.lt
    have CBw := Bw.cell; have LBw := Bw.lt
    have CBx := Bx.cell; have LBx := Bx.lt
    go_wp2_with fail
    refine (heardFeed_k ((gx.rd).ext (by repeat' (first | (with_reducible exact Ext.refl _) | (with_reducible assumption) | (with_reducible refine Ext.drewN ?_ _) | (with_reducible refine Ext.drew ?_) | (with_reducible refine Ext.alloc ?_ _) | (with_reducible refine Ext.setCell ?_ ?_ _) | (with_reducible refine Ext.setRow ?_ ?_ _) | (with_reducible exact Nat.le_refl _) | (with_reducible refine Ext.trans ?_ (by assumption)) | omega))) ((gy.rd).ext (by repeat' (first | (with_reducible exact Ext.refl _) | (with_reducible assumption) | (with_reducible refine Ext.drewN ?_ _) | (with_reducible refine Ext.drew ?_) | (with_reducible refine Ext.alloc ?_ _) | (with_reducible refine Ext.setCell ?_ ?_ _) | (with_reducible refine Ext.setRow ?_ ?_ _) | (with_reducible exact Nat.le_refl _) | (with_reducible refine Ext.trans ?_ (by assumption)) | omega)))).mono ?_
    rintro e w6 ⟨_, rfl, hx6, Fg, gg⟩
    obtain ⟨ag0, ng0, kg0, ag1, ng1, kg1, ag4, ng4, kg4, ag5, ng5, kg5, rfl⟩ := gg.rd.shape
    have lg := gg.low; (try simp only [World.size_alloc] at lg)
    have X6 : Ext w5 w6 := by repeat' (first | (with_reducible exact Ext.refl _) | (with_reducible assumption) | (with_reducible refine Ext.drewN ?_ _) | (with_reducible refine Ext.drew ?_) | (with_reducible refine Ext.alloc ?_ _) | (with_reducible refine Ext.setCell ?_ ?_ _) | (with_reducible refine Ext.setRow ?_ ?_ _) | (with_reducible exact Nat.le_refl _) | (with_reducible refine Ext.trans ?_ (by assumption)) | omega)
    have By : Blk w6 w5.heap.size 53 #[.int .i64 T.Base, .int .i64 T.Last, .slice ay2 ny2 ky2] := (Blk.new w5 53 #[.int .i64 T.Base, .int .i64 T.Last, .slice ay2 ny2 ky2]).ext hx6
    have MBy := By.lt
    have Z6 := X6.size
    have E6 : Ext w w6 := E5.trans X6
    replace Ba := Ba.ext X6
    replace Bb := Bb.ext X6
    replace Bw := Bw.ext X6
    replace gw := gw.ext X6
    replace gx := gx.ext X6
    replace Bx := Bx.ext X6
    replace gy := gy.ext X6
    clear hx6
    clear CBa LBa CBb LBb CBw LBw CBx LBx
    have CBa := Ba.cell; have LBa := Ba.lt
    have CBb := Bb.cell; have LBb := Bb.lt
    have CBw := Bw.cell; have LBw := Bw.lt
    have CBx := Bx.cell; have LBx := Bx.lt
    have CBy := By.cell; have LBy := By.lt
    as_aux_lemma =>
      go_wp2_with fail
      refine (eq_Store ((gg.rd).ext (by repeat' (first | (with_reducible exact Ext.refl _) | (with_reducible assumption) | (with_reducible refine Ext.drewN ?_ _) | (with_reducible refine Ext.drew ?_) | (with_reducible refine Ext.alloc ?_ _) | (with_reducible refine Ext.setCell ?_ ?_ _) | (with_reducible refine Ext.setRow ?_ ?_ _) | (with_reducible exact Nat.le_refl _) | (with_reducible refine Ext.trans ?_ (by assumption)) | omega))) ((gw.rd).ext (by repeat' (first | (with_reducible exact Ext.refl _) | (with_reducible assumption) | (with_reducible refine Ext.drewN ?_ _) | (with_reducible refine Ext.drew ?_) | (with_reducible refine Ext.alloc ?_ _) | (with_reducible refine Ext.setCell ?_ ?_ _) | (with_reducible refine Ext.setRow ?_ ?_ _) | (with_reducible exact Nat.le_refl _) | (with_reducible refine Ext.trans ?_ (by assumption)) | omega)))).mono ?_
      rintro e w7 ⟨rfl, hx7⟩
      have X7 : Ext w6 w7 := by repeat' (first | (with_reducible exact Ext.refl _) | (with_reducible assumption) | (with_reducible refine Ext.drewN ?_ _) | (with_reducible refine Ext.drew ?_) | (with_reducible refine Ext.alloc ?_ _) | (with_reducible refine Ext.setCell ?_ ?_ _) | (with_reducible refine Ext.setRow ?_ ?_ _) | (with_reducible exact Nat.le_refl _) | (with_reducible refine Ext.trans ?_ (by assumption)) | omega)
      have Bg : Blk w7 w6.heap.size 48 #[.slice ag0 ng0 kg0, .slice ag1 ng1 kg1, .int .i64 (hfD S T).State.Index, .int .i64 (hfD S T).State.Time, .slice ag4 ng4 kg4, .slice ag5 ng5 kg5, .int .i64 (hfD S T).State.Lease.Holder, .int .i64 (hfD S T).State.Lease.Epoch, .int .i64 (hfD S T).State.Lease.Until, .int .i64 (hfD S T).Num, .int .i64 (hfD S T).Last, .int .i64 (hfD S T).Busy] := (Blk.new w6 48 #[.slice ag0 ng0 kg0, .slice ag1 ng1 kg1, .int .i64 (hfD S T).State.Index, .int .i64 (hfD S T).State.Time, .slice ag4 ng4 kg4, .slice ag5 ng5 kg5, .int .i64 (hfD S T).State.Lease.Holder, .int .i64 (hfD S T).State.Lease.Epoch, .int .i64 (hfD S T).State.Lease.Until, .int .i64 (hfD S T).Num, .int .i64 (hfD S T).Last, .int .i64 (hfD S T).Busy]).ext hx7
      have MBg := Bg.lt
      have Z7 := X7.size
      have E7 : Ext w w7 := E6.trans X7
      replace Ba := Ba.ext X7
      replace Bb := Bb.ext X7
      replace Bw := Bw.ext X7
      replace gw := gw.ext X7
      replace gx := gx.ext X7
      replace Bx := Bx.ext X7
      replace gy := gy.ext X7
      replace By := By.ext X7
      replace gg := gg.ext X7
      clear hx7
      clear CBa LBa CBb LBb CBw LBw CBx LBx CBy LBy
      have CBa := Ba.cell; have LBa := Ba.lt
      have CBb := Bb.cell; have LBb := Bb.lt
      have CBw := Bw.cell; have LBw := Bw.lt
      have CBx := Bx.cell; have LBx := Bx.lt
      have CBy := By.cell; have LBy := By.lt
      have CBg := Bg.cell; have LBg := Bg.lt
      go_wp2_with fail
      have ya0 : ∀ w', Ext w7 w' → w'.cell? ⟨_, 0, none⟩ = some (.slice a0_0 n0_0 k0_0) := fun w' hw => (Ba.ext hw).cell 0
      have ya1 : ∀ w', Ext w7 w' → w'.cell? ⟨_, 1, none⟩ = some (.slice a0_1 n0_1 k0_1) := fun w' hw => (Ba.ext hw).cell 1
      have ya2 : ∀ w', Ext w7 w' → w'.cell? ⟨_, 2, none⟩ = some (.int .i64 c0_2) := fun w' hw => (Ba.ext hw).cell 2
      have ya3 : ∀ w', Ext w7 w' → w'.cell? ⟨_, 3, none⟩ = some (.int .i64 c0_3) := fun w' hw => (Ba.ext hw).cell 3
      have ya4 : ∀ w', Ext w7 w' → w'.cell? ⟨_, 4, none⟩ = some (.slice a0_4 n0_4 k0_4) := fun w' hw => (Ba.ext hw).cell 4
      have ya5 : ∀ w', Ext w7 w' → w'.cell? ⟨_, 5, none⟩ = some (.slice a0_5 n0_5 k0_5) := fun w' hw => (Ba.ext hw).cell 5
      have ya6 : ∀ w', Ext w7 w' → w'.cell? ⟨_, 6, none⟩ = some (.int .i64 c0_6) := fun w' hw => (Ba.ext hw).cell 6
      have ya7 : ∀ w', Ext w7 w' → w'.cell? ⟨_, 7, none⟩ = some (.int .i64 c0_7) := fun w' hw => (Ba.ext hw).cell 7
      have ya8 : ∀ w', Ext w7 w' → w'.cell? ⟨_, 8, none⟩ = some (.int .i64 c0_8) := fun w' hw => (Ba.ext hw).cell 8
      have ya9 : ∀ w', Ext w7 w' → w'.cell? ⟨_, 9, none⟩ = some (.int .i64 c0_9) := fun w' hw => (Ba.ext hw).cell 9
      have ya10 : ∀ w', Ext w7 w' → w'.cell? ⟨_, 10, none⟩ = some (.int .i64 c0_10) := fun w' hw => (Ba.ext hw).cell 10
      have ya11 : ∀ w', Ext w7 w' → w'.cell? ⟨_, 11, none⟩ = some (.int .i64 c0_11) := fun w' hw => (Ba.ext hw).cell 11
      have yb0 : ∀ w', Ext w7 w' → w'.cell? ⟨_, 0, none⟩ = some (.slice ax0 nx0 kx0) := fun w' hw => (Bx.ext hw).cell 0
      have yb1 : ∀ w', Ext w7 w' → w'.cell? ⟨_, 1, none⟩ = some (.slice ax1 nx1 kx1) := fun w' hw => (Bx.ext hw).cell 1
      have yb2 : ∀ w', Ext w7 w' → w'.cell? ⟨_, 2, none⟩ = some (.int .i64 S.State.Index) := fun w' hw => (Bx.ext hw).cell 2
      have yb3 : ∀ w', Ext w7 w' → w'.cell? ⟨_, 3, none⟩ = some (.int .i64 S.State.Time) := fun w' hw => (Bx.ext hw).cell 3
      have yb4 : ∀ w', Ext w7 w' → w'.cell? ⟨_, 4, none⟩ = some (.slice ax4 nx4 kx4) := fun w' hw => (Bx.ext hw).cell 4
      have yb5 : ∀ w', Ext w7 w' → w'.cell? ⟨_, 5, none⟩ = some (.slice ax5 nx5 kx5) := fun w' hw => (Bx.ext hw).cell 5
      have yb6 : ∀ w', Ext w7 w' → w'.cell? ⟨_, 6, none⟩ = some (.int .i64 S.State.Lease.Holder) := fun w' hw => (Bx.ext hw).cell 6
      have yb7 : ∀ w', Ext w7 w' → w'.cell? ⟨_, 7, none⟩ = some (.int .i64 S.State.Lease.Epoch) := fun w' hw => (Bx.ext hw).cell 7
      have yb8 : ∀ w', Ext w7 w' → w'.cell? ⟨_, 8, none⟩ = some (.int .i64 S.State.Lease.Until) := fun w' hw => (Bx.ext hw).cell 8
      have yb9 : ∀ w', Ext w7 w' → w'.cell? ⟨_, 9, none⟩ = some (.int .i64 S.Num) := fun w' hw => (Bx.ext hw).cell 9
      have yb10 : ∀ w', Ext w7 w' → w'.cell? ⟨_, 10, none⟩ = some (.int .i64 S.Last) := fun w' hw => (Bx.ext hw).cell 10
      have yb11 : ∀ w', Ext w7 w' → w'.cell? ⟨_, 11, none⟩ = some (.int .i64 S.Busy) := fun w' hw => (Bx.ext hw).cell 11
      clear CBa LBa CBb LBb CBw LBw CBx LBx CBy LBy CBg LBg
      go_region_held3 (fun w' => Ext w7 w') (first | exact Ext.drew (Ext.refl _) | exact Ext.trans (by assumption) hx8 | exact Ext.trans (by assumption) hx9) (first | (go_at_call 10; refine (to_Store (h0.ext (Ext.trans E7 (by assumption))) q0_0 q0_1 q0_2 q0_3).mono ?_; rintro e w8 ⟨_, rfl, hx8, Fz, gz⟩; obtain ⟨az0, nz0, kz0, az1, nz1, kz1, az4, nz4, kz4, az5, nz5, kz5, rfl⟩ := gz.rd.shape) | (go_at_call 13; refine (eq_Store ((gx.rd).ext (by assumption)) gz.rd).mono ?_; rintro e w9 ⟨rfl, hx9⟩))
      have X9 : Ext w7 w9 := by assumption
      clear ya0 yb0 ya1 yb1 ya2 yb2 ya3 yb3 ya4 yb4 ya5 yb5 ya6 yb6 ya7 yb7 ya8 yb8 ya9 yb9 ya10 yb10 ya11 yb11 hx9
      have Z9 := X9.size; have E9 : Ext w w9 := E7.trans X9
      replace Ba := Ba.ext X9
      replace Bb := Bb.ext X9
      replace Bw := Bw.ext X9
      replace gw := gw.ext X9
      replace gx := gx.ext X9
      replace Bx := Bx.ext X9
      replace gy := gy.ext X9
      replace By := By.ext X9
      replace gg := gg.ext X9
      replace Bg := Bg.ext X9
      have CBa := Ba.cell; have LBa := Ba.lt
      have CBb := Bb.cell; have LBb := Bb.lt
      have CBw := Bw.cell; have LBw := Bw.lt
      have CBx := Bx.cell; have LBx := Bx.lt
      have CBy := By.cell; have LBy := By.lt
      have CBg := Bg.cell; have LBg := Bg.lt
      go_wp2_with fail
      have ya0 : ∀ w', Ext w9 w' → w'.cell? ⟨_, 0, none⟩ = some (.int .i64 c1_0) := fun w' hw => (Bb.ext hw).cell 0
      have ya1 : ∀ w', Ext w9 w' → w'.cell? ⟨_, 1, none⟩ = some (.int .i64 c1_1) := fun w' hw => (Bb.ext hw).cell 1
      have ya2 : ∀ w', Ext w9 w' → w'.cell? ⟨_, 2, none⟩ = some (.slice a1_2 n1_2 k1_2) := fun w' hw => (Bb.ext hw).cell 2
      have yb0 : ∀ w', Ext w9 w' → w'.cell? ⟨_, 0, none⟩ = some (.int .i64 T.Base) := fun w' hw => (By.ext hw).cell 0
      have yb1 : ∀ w', Ext w9 w' → w'.cell? ⟨_, 1, none⟩ = some (.int .i64 T.Last) := fun w' hw => (By.ext hw).cell 1
      have yb2 : ∀ w', Ext w9 w' → w'.cell? ⟨_, 2, none⟩ = some (.slice ay2 ny2 ky2) := fun w' hw => (By.ext hw).cell 2
      clear CBa LBa CBb LBb CBw LBw CBx LBx CBy LBy CBg LBg
      go_region_held3 (fun w' => Ext w9 w') (first | exact Ext.drew (Ext.refl _) | exact Ext.trans (by assumption) hx10 | exact Ext.trans (by assumption) hx11) (first | (go_at_call 11; refine (to_Feed (h1.ext (Ext.trans E9 (by assumption))) q1_0).mono ?_; rintro e w10 ⟨_, rfl, hx10, Fz, gz⟩; obtain ⟨az2, nz2, kz2, rfl⟩ := gz.rd.shape) | (go_at_call 14; refine (eq_Feed ((gy.rd).ext (by assumption)) gz.rd).mono ?_; rintro e w11 ⟨rfl, hx11⟩))
      have X11 : Ext w9 w11 := by assumption
      clear ya0 yb0 ya1 yb1 ya2 yb2 hx11
      have Z11 := X11.size; have E11 : Ext w w11 := E9.trans X11
      replace Ba := Ba.ext X11
      replace Bb := Bb.ext X11
      replace Bw := Bw.ext X11
      replace gw := gw.ext X11
      replace gx := gx.ext X11
      replace Bx := Bx.ext X11
      replace gy := gy.ext X11
      replace By := By.ext X11
      replace gg := gg.ext X11
      replace Bg := Bg.ext X11
      have CBa := Ba.cell; have LBa := Ba.lt
      have CBb := Bb.cell; have LBb := Bb.lt
      have CBw := Bw.cell; have LBw := Bw.lt
      have CBx := Bx.cell; have LBx := Bx.lt
      have CBy := By.cell; have LBy := By.lt
      have CBg := Bg.cell; have LBg := Bg.lt
      as_aux_lemma =>
        go_wp2_with fail
        refine (mark_Store (gx.ext (by repeat' (first | (with_reducible exact Ext.refl _) | (with_reducible assumption) | (with_reducible refine Ext.drewN ?_ _) | (with_reducible refine Ext.drew ?_) | (with_reducible refine Ext.alloc ?_ _) | (with_reducible refine Ext.setCell ?_ ?_ _) | (with_reducible refine Ext.setRow ?_ ?_ _) | (with_reducible exact Nat.le_refl _) | (with_reducible refine Ext.trans ?_ (by assumption)) | omega))) (by omega) (by have := nx; omega)).mono ?_
        rintro e w12 ⟨rfl, hx12, gxm⟩
        have X12 : Upd w11 w12 Fx := (Ext.upd (by repeat' (first | (with_reducible exact Ext.refl _) | (with_reducible assumption) | (with_reducible refine Ext.drewN ?_ _) | (with_reducible refine Ext.drew ?_) | (with_reducible refine Ext.alloc ?_ _) | (with_reducible refine Ext.setCell ?_ ?_ _) | (with_reducible refine Ext.setRow ?_ ?_ _) | (with_reducible exact Nat.le_refl _) | (with_reducible refine Ext.trans ?_ (by assumption)) | omega)) _).trans hx12
        have Z12 := X12.size
        have E12 : Ext w w12 := E11.upd_below X12 (fun k hk => by have := lx k hk; omega)
        replace Ba := Ba.upd X12 (fun hk => by have := lx _ hk; omega)
        replace Bb := Bb.upd X12 (fun hk => by have := lx _ hk; omega)
        replace Bw := Bw.upd X12 (fun hk => by have := lx _ hk; omega)
        replace gw := gw.upd X12 (fun k hk hk' => by have := lx k hk'; have := lw k hk; omega)
        replace Bx := Bx.upd X12 (fun hk => by have := lx _ hk; omega)
        replace gy := gy.upd X12 (fun k hk hk' => by have := lx k hk'; have := ly k hk; omega)
        replace By := By.upd X12 (fun hk => by have := lx _ hk; omega)
        replace gg := gg.upd X12 (fun k hk hk' => by have := lx k hk'; have := lg k hk; omega)
        replace Bg := Bg.upd X12 (fun hk => by have := lx _ hk; omega)
        obtain ⟨K, hK⟩ : ∃ z : Int, z = 1 + ((nStore (S) : Nat) : Int) := ⟨_, rfl⟩
        rw [← hK]
        have pK : 0 ≤ K := by omega
        have rK : K ≤ 1000000000 := by have := nx; omega
        have HK := Lib.hid hK
        clear hK
        have dK : decide (K < 0) = false := by simp; omega
        clear hx12
        clear CBa LBa CBb LBb CBw LBw CBx LBx CBy LBy CBg LBg
        have CBa := Ba.cell; have LBa := Ba.lt
        have CBb := Bb.cell; have LBb := Bb.lt
        have CBw := Bw.cell; have LBw := Bw.lt
        have CBx := Bx.cell; have LBx := Bx.lt
        have CBy := By.cell; have LBy := By.lt
        have CBg := Bg.cell; have LBg := Bg.lt
        go_wp2_with fail
        refine (mark_Feed (gy.ext (by repeat' (first | (with_reducible exact Ext.refl _) | (with_reducible assumption) | (with_reducible refine Ext.drewN ?_ _) | (with_reducible refine Ext.drew ?_) | (with_reducible refine Ext.alloc ?_ _) | (with_reducible refine Ext.setCell ?_ ?_ _) | (with_reducible refine Ext.setRow ?_ ?_ _) | (with_reducible exact Nat.le_refl _) | (with_reducible refine Ext.trans ?_ (by assumption)) | omega))) (by omega) (by have := ny; omega)).mono ?_
        rintro e w13 ⟨rfl, hx13, gym⟩
        have X13 : Upd w12 w13 Fy := (Ext.upd (by repeat' (first | (with_reducible exact Ext.refl _) | (with_reducible assumption) | (with_reducible refine Ext.drewN ?_ _) | (with_reducible refine Ext.drew ?_) | (with_reducible refine Ext.alloc ?_ _) | (with_reducible refine Ext.setCell ?_ ?_ _) | (with_reducible refine Ext.setRow ?_ ?_ _) | (with_reducible exact Nat.le_refl _) | (with_reducible refine Ext.trans ?_ (by assumption)) | omega)) _).trans hx13
        have Z13 := X13.size
        have E13 : Ext w w13 := E12.upd_below X13 (fun k hk => by have := ly k hk; omega)
        replace Ba := Ba.upd X13 (fun hk => by have := ly _ hk; omega)
        replace Bb := Bb.upd X13 (fun hk => by have := ly _ hk; omega)
        replace Bw := Bw.upd X13 (fun hk => by have := ly _ hk; omega)
        replace gw := gw.upd X13 (fun k hk hk' => by have := ly k hk'; have := lw k hk; omega)
        replace Bx := Bx.upd X13 (fun hk => by have := ly _ hk; omega)
        replace By := By.upd X13 (fun hk => by have := ly _ hk; omega)
        replace gg := gg.upd X13 (fun k hk hk' => by have := ly k hk'; have := lg k hk; omega)
        replace Bg := Bg.upd X13 (fun hk => by have := ly _ hk; omega)
        obtain ⟨K2, hK2⟩ : ∃ z : Int, z = K + ((numFeed (T) : Nat) : Int) := ⟨_, rfl⟩
        rw [← hK2]
        have pK2 : 0 ≤ K2 := by omega
        have rK2 : K2 ≤ 4000000000 := by have := ny; omega
        have HK2 := Lib.hid hK2
        clear hK2
        have dK2 : decide (K2 < 0) = false := by simp; omega
        clear hx13
        clear CBa LBa CBb LBb CBw LBw CBx LBx CBy LBy CBg LBg
        have CBa := Ba.cell; have LBa := Ba.lt
        have CBb := Bb.cell; have LBb := Bb.lt
        have CBw := Bw.cell; have LBw := Bw.lt
        have CBx := Bx.cell; have LBx := Bx.lt
        have CBy := By.cell; have LBy := By.lt
        have CBg := Bg.cell; have LBg := Bg.lt
        go_wp2_with fail
        refine (eq_Store ((gg.rd).ext (by repeat' (first | (with_reducible exact Ext.refl _) | (with_reducible assumption) | (with_reducible refine Ext.drewN ?_ _) | (with_reducible refine Ext.drew ?_) | (with_reducible refine Ext.alloc ?_ _) | (with_reducible refine Ext.setCell ?_ ?_ _) | (with_reducible refine Ext.setRow ?_ ?_ _) | (with_reducible exact Nat.le_refl _) | (with_reducible refine Ext.trans ?_ (by assumption)) | omega))) ((gw.rd).ext (by repeat' (first | (with_reducible exact Ext.refl _) | (with_reducible assumption) | (with_reducible refine Ext.drewN ?_ _) | (with_reducible refine Ext.drew ?_) | (with_reducible refine Ext.alloc ?_ _) | (with_reducible refine Ext.setCell ?_ ?_ _) | (with_reducible refine Ext.setRow ?_ ?_ _) | (with_reducible exact Nat.le_refl _) | (with_reducible refine Ext.trans ?_ (by assumption)) | omega)))).mono ?_
        rintro e w14 ⟨rfl, hx14⟩
        have X14 : Ext w13 w14 := by repeat' (first | (with_reducible exact Ext.refl _) | (with_reducible assumption) | (with_reducible refine Ext.drewN ?_ _) | (with_reducible refine Ext.drew ?_) | (with_reducible refine Ext.alloc ?_ _) | (with_reducible refine Ext.setCell ?_ ?_ _) | (with_reducible refine Ext.setRow ?_ ?_ _) | (with_reducible exact Nat.le_refl _) | (with_reducible refine Ext.trans ?_ (by assumption)) | omega)
        have Z14 := X14.size
        have E14 : Ext w w14 := E13.trans X14
        replace Ba := Ba.ext X14
        replace Bb := Bb.ext X14
        replace Bw := Bw.ext X14
        replace gw := gw.ext X14
        replace Bx := Bx.ext X14
        replace By := By.ext X14
        replace gg := gg.ext X14
        replace Bg := Bg.ext X14
        clear hx14
        clear CBa LBa CBb LBb CBw LBw CBx LBx CBy LBy CBg LBg
        have CBa := Ba.cell; have LBa := Ba.lt
        have CBb := Bb.cell; have LBb := Bb.lt
        have CBw := Bw.cell; have LBw := Bw.lt
        have CBx := Bx.cell; have LBx := Bx.lt
        have CBy := By.cell; have LBy := By.lt
        have CBg := Bg.cell; have LBg := Bg.lt
        go_wp2_with fail
        refine (mark_Store (gg.ext (by repeat' (first | (with_reducible exact Ext.refl _) | (with_reducible assumption) | (with_reducible refine Ext.drewN ?_ _) | (with_reducible refine Ext.drew ?_) | (with_reducible refine Ext.alloc ?_ _) | (with_reducible refine Ext.setCell ?_ ?_ _) | (with_reducible refine Ext.setRow ?_ ?_ _) | (with_reducible exact Nat.le_refl _) | (with_reducible refine Ext.trans ?_ (by assumption)) | omega))) (by omega) (by have := nb; omega)).mono ?_
        rintro e w15 ⟨rfl, hx15, gm⟩
        have X15 : Upd w14 w15 Fg := (Ext.upd (by repeat' (first | (with_reducible exact Ext.refl _) | (with_reducible assumption) | (with_reducible refine Ext.drewN ?_ _) | (with_reducible refine Ext.drew ?_) | (with_reducible refine Ext.alloc ?_ _) | (with_reducible refine Ext.setCell ?_ ?_ _) | (with_reducible refine Ext.setRow ?_ ?_ _) | (with_reducible exact Nat.le_refl _) | (with_reducible refine Ext.trans ?_ (by assumption)) | omega)) _).trans hx15
        have Z15 := X15.size
        have E15 : Ext w w15 := E14.upd_below X15 (fun k hk => by have := lg k hk; omega)
        replace Ba := Ba.upd X15 (fun hk => by have := lg _ hk; omega)
        replace Bb := Bb.upd X15 (fun hk => by have := lg _ hk; omega)
        replace Bw := Bw.upd X15 (fun hk => by have := lg _ hk; omega)
        replace gw := gw.upd X15 (fun k hk hk' => by have := lg k hk'; have := lw k hk; omega)
        replace Bx := Bx.upd X15 (fun hk => by have := lg _ hk; omega)
        replace By := By.upd X15 (fun hk => by have := lg _ hk; omega)
        replace Bg := Bg.upd X15 (fun hk => by have := lg _ hk; omega)
        obtain ⟨N, hN⟩ : ∃ z : Int, z = 1 + ((nStore (hfD S T) : Nat) : Int) := ⟨_, rfl⟩
        rw [← hN]
        have pN : 0 ≤ N := by omega
        have rN : N ≤ 1000000000 := by have := nb; omega
        have HN := Lib.hid hN
        clear hN
        have dN : decide (N < 0) = false := by simp; omega
        clear hx15
        clear CBa LBa CBb LBb CBw LBw CBx LBx CBy LBy CBg LBg
        have CBa := Ba.cell; have LBa := Ba.lt
        have CBb := Bb.cell; have LBb := Bb.lt
        have CBw := Bw.cell; have LBw := Bw.lt
        have CBx := Bx.cell; have LBx := Bx.lt
        have CBy := By.cell; have LBy := By.lt
        have CBg := Bg.cell; have LBg := Bg.lt
        go_wp2_with fail
        refine (held_Store (gm.ext (by repeat' (first | (with_reducible exact Ext.refl _) | (with_reducible assumption) | (with_reducible refine Ext.drewN ?_ _) | (with_reducible refine Ext.drew ?_) | (with_reducible refine Ext.alloc ?_ _) | (with_reducible refine Ext.setCell ?_ ?_ _) | (with_reducible refine Ext.setRow ?_ ?_ _) | (with_reducible exact Nat.le_refl _) | (with_reducible refine Ext.trans ?_ (by assumption)) | omega))) (by omega) (by have := nb; omega)).mono ?_
        rintro e w16 ⟨rfl, hx16⟩
        rw [← HN.out]
        have X16 : Ext w15 w16 := by repeat' (first | (with_reducible exact Ext.refl _) | (with_reducible assumption) | (with_reducible refine Ext.drewN ?_ _) | (with_reducible refine Ext.drew ?_) | (with_reducible refine Ext.alloc ?_ _) | (with_reducible refine Ext.setCell ?_ ?_ _) | (with_reducible refine Ext.setRow ?_ ?_ _) | (with_reducible exact Nat.le_refl _) | (with_reducible refine Ext.trans ?_ (by assumption)) | omega)
        have Z16 := X16.size
        have E16 : Ext w w16 := E15.trans X16
        replace Ba := Ba.ext X16
        replace Bb := Bb.ext X16
        replace Bw := Bw.ext X16
        replace gw := gw.ext X16
        replace Bx := Bx.ext X16
        replace By := By.ext X16
        replace Bg := Bg.ext X16
        replace gm := gm.ext X16
        clear hx16
        clear CBa LBa CBb LBb CBw LBw CBx LBx CBy LBy CBg LBg
        have CBa := Ba.cell; have LBa := Ba.lt
        have CBb := Bb.cell; have LBb := Bb.lt
        have CBw := Bw.cell; have LBw := Bw.lt
        have CBx := Bx.cell; have LBx := Bx.lt
        have CBy := By.cell; have LBy := By.lt
        have CBg := Bg.cell; have LBg := Bg.lt
        go_wp2_with fail
        clear CBa LBa CBb LBb CBw LBw CBx LBx CBy LBy CBg LBg
        go_cut [13] (fun sx wx => ∃ ah0 nh0 kh0 ah1 nh1 kh1 ah4 nh4 kh4 ah5 nh5 kh5, ∃ gg : Nat, sx = .pointer (some ⟨gg, 0, none⟩) ∧ Ext w16 wx ∧ w16.heap.size ≤ gg ∧ Blk wx gg 48 #[.slice ah0 nh0 kh0, .slice ah1 nh1 kh1, .int .i64 (hfD S T).State.Index, .int .i64 (hfD S T).State.Time, .slice ah4 nh4 kh4, .slice ah5 nh5 kh5, .int .i64 (hfD S T).State.Lease.Holder, .int .i64 (hfD S T).State.Lease.Epoch, .int .i64 (hfD S T).State.Lease.Until, .int .i64 (hfD S T).Num, .int .i64 (hfD S T).Last, .int .i64 (hfD S T).Busy] ∧ ∃ F, OwStore w16.heap.size wx (.agg #[.slice ah0 nh0 kh0, .slice ah1 nh1 kh1, .int .i64 (hfD S T).State.Index, .int .i64 (hfD S T).State.Time, .slice ah4 nh4 kh4, .slice ah5 nh5 kh5, .int .i64 (hfD S T).State.Lease.Holder, .int .i64 (hfD S T).State.Lease.Epoch, .int .i64 (hfD S T).State.Lease.Until, .int .i64 (hfD S T).Num, .int .i64 (hfD S T).Last, .int .i64 (hfD S T).Busy]) (hfD S T) F ∧ (∀ k, k ∈ F → k < wx.heap.size ∧ k ≠ gg))
        case first =>
          try clear X1
          try clear Z1
          try clear E1
          try clear X2
          try clear Z2
          try clear E2
          try clear X3
          try clear Z3
          try clear E3
          try clear X4
          try clear Z4
          try clear E4
          try clear X5
          try clear Z5
          try clear E5
          try clear X6
          try clear Z6
          try clear E6
          try clear X7
          try clear Z7
          try clear E7
          try clear X8
          try clear Z8
          try clear E8
          try clear X9
          try clear Z9
          try clear E9
          try clear X10
          try clear Z10
          try clear E10
          try clear X11
          try clear Z11
          try clear E11
          try clear X12
          try clear Z12
          try clear E12
          try clear X13
          try clear Z13
          try clear E13
          try clear X14
          try clear Z14
          try clear E14
          try clear X15
          try clear Z15
          try clear E15
          try clear X16
          try clear Z16
          try clear X17
          try clear Z17
          try clear X18
          try clear Z18
          try clear X19
          try clear Z19
          try clear X20
          try clear Z20
          try clear X21
          try clear Z21
          try clear X22
          try clear Z22
          try clear X23
          try clear Z23
          try clear X24
          try clear Z24
          try clear X25
          try clear Z25
          try clear X26
          try clear Z26
          try clear X27
          try clear Z27
          try clear X28
          try clear Z28
          try clear X29
          try clear Z29
          try clear X30
          try clear Z30
          try clear X31
          try clear Z31
          try clear X32
          try clear Z32
          try clear X33
          try clear Z33
          try clear X34
          try clear Z34
          try clear X35
          try clear Z35
          try clear X36
          try clear Z36
          try clear X37
          try clear Z37
          try clear X38
          try clear Z38
          try clear X39
          try clear Z39
          try clear Bw
          try clear Bx
          try clear By
          try clear Bg
          try clear gw
          try clear gx
          try clear gy
          try clear gg
          try clear gm
          try clear gxm
          try clear gym
          try clear MBw
          try clear MBx
          try clear MBy
          try clear MBg
          try clear lw
          try clear lx
          try clear ly
          try clear lg
          try clear hb2w
          try clear hgew
          try clear nx
          try clear ny
          try clear nb
          try clear HK
          try clear HK2
          try clear HN
          try clear pK
          try clear pK2
          try clear pN
          try clear rK
          try clear rK2
          try clear rN
          try clear dK
          try clear dK2
          try clear dN
          try clear dL2
          try clear dL3
          try clear L2a
          try clear L2b
          refine wp_region_held_drew (S := (fun w' => Ext w16 w')) (by kernel_rfl) (by (try dsimp only); exact extT) (fun hHeld => ?_)
          refine wpAnyH_take (i := 0) (v := ?_) rfl (by kernel_rfl) (by kernel_rfl) (by kernel_rfl) (fun _ _ _ h => h) (Or.inl ⟨by rfl, ?_⟩) (by assumption) ?_
          rotate_left
          focus (intro w hSw; (try dsimp only at hSw); have hq := (Ba.ext hSw).cell; have hq2 := (Ba.ext hSw).lt; go_simp <;> with_reducible rfl)
          (try simp only [List.getElem_toArray, List.getElem_cons_zero, List.getElem_cons_succ, Act.put, List.setIfInBounds_toArray, List.set_cons_zero, List.set_cons_succ])
          refine wpAnyH_take (i := 2) (v := ?_) rfl (by kernel_rfl) (by kernel_rfl) (by kernel_rfl) (fun _ _ _ h => h) (Or.inl ⟨by rfl, ?_⟩) (by assumption) ?_
          rotate_left
          focus (intro w hSw; (try dsimp only at hSw); have hq := (Bb.ext hSw).cell; have hq2 := (Bb.ext hSw).lt; go_simp <;> with_reducible rfl)
          (try simp only [List.getElem_toArray, List.getElem_cons_zero, List.getElem_cons_succ, Act.put, List.setIfInBounds_toArray, List.set_cons_zero, List.set_cons_succ])
          refine wpAnyH_ready (rs := [1, 5]) (by kernel_rfl) (by simp) ?_
          refine AllReadyH.cons rfl (fun Kz hKz => ?_) (AllReadyH.cons rfl (fun Kz hKz => ?_) AllReadyH.nil)
          · (try simp only [List.getElem_toArray, List.getElem_cons_zero, List.getElem_cons_succ])
            go_simp
            (go_at_call 10; refine (to_Store (h0.ext (Ext.trans E16 (by repeat' (first | (with_reducible exact Ext.refl _) | (with_reducible assumption) | (with_reducible refine Ext.drewN ?_ _) | (with_reducible refine Ext.drew ?_) | (with_reducible refine Ext.alloc ?_ _) | (with_reducible refine Ext.setCell ?_ ?_ _) | (with_reducible refine Ext.setRow ?_ ?_ _) | (with_reducible exact Nat.le_refl _) | (with_reducible refine Ext.trans ?_ (by assumption)) | omega)))) q0_0 q0_1 q0_2 q0_3).mono ?_; rintro e wa ⟨_, rfl, hxwa, F0, g0⟩; obtain ⟨ahp0, nhp0, khp0, ahp1, nhp1, khp1, ahp4, nhp4, khp4, ahp5, nhp5, khp5, rfl⟩ := g0.rd.shape; have hzwa := hxwa.size; (try simp only [size_drew, World.size_alloc] at hzwa); have XA : Ext w16 wa := Ext.trans (by repeat' (first | (with_reducible exact Ext.refl _) | (with_reducible assumption) | (with_reducible refine Ext.drewN ?_ _) | (with_reducible refine Ext.drew ?_) | (with_reducible refine Ext.alloc ?_ _) | (with_reducible refine Ext.setCell ?_ ?_ _) | (with_reducible refine Ext.setRow ?_ ?_ _) | (with_reducible exact Nat.le_refl _) | (with_reducible refine Ext.trans ?_ (by assumption)) | omega)) hxwa; (first | (have KU := Blk.ext KU hxwa; have CU := KU.cell; have FU := KU.frozen; have LU := KU.lt) | (have KU : Blk wa w16.heap.size 48 #[.slice none 0 0, .slice none 0 0, .int .i64 0, .int .i64 0, .slice none 0 0, .slice none 0 0, .int .i64 0, .int .i64 0, .int .i64 0, .int .i64 0, .int .i64 0, .int .i64 0] := Blk.ext (Blk.new w16.drew _ _) hxwa; have CU := KU.cell; have FU := KU.frozen; have LU := KU.lt) | skip))
            refine hKz.out _ _ (by (try dsimp only); exact extT) (fun hHeld => ?_)
            clear hKz Kz
            (try simp only [List.getElem_toArray, List.getElem_cons_zero, List.getElem_cons_succ, Act.put, List.setIfInBounds_toArray, List.set_cons_zero, List.set_cons_succ])
            refine wpAnyH_ready (rs := [3, 5]) (by kernel_rfl) (by simp) ?_
            refine AllReadyH.cons rfl (fun Kz hKz => ?_) (AllReadyH.cons rfl (fun Kz hKz => ?_) AllReadyH.nil)
            · (try simp only [List.getElem_toArray, List.getElem_cons_zero, List.getElem_cons_succ])
              go_simp
              (go_at_call 11; refine (to_Feed (h1.ext (Ext.trans E16 (by repeat' (first | (with_reducible exact Ext.refl _) | (with_reducible assumption) | (with_reducible refine Ext.drewN ?_ _) | (with_reducible refine Ext.drew ?_) | (with_reducible refine Ext.alloc ?_ _) | (with_reducible refine Ext.setCell ?_ ?_ _) | (with_reducible refine Ext.setRow ?_ ?_ _) | (with_reducible exact Nat.le_refl _) | (with_reducible refine Ext.trans ?_ (by assumption)) | omega)))) q1_0).mono ?_; rintro e wb ⟨_, rfl, hxwb, F1, g1⟩; obtain ⟨ahq2, nhq2, khq2, rfl⟩ := g1.rd.shape; have hzwb := hxwb.size; (try simp only [size_drew, World.size_alloc] at hzwb); have XAB : Ext wa wb := Ext.trans (by repeat' (first | (with_reducible exact Ext.refl _) | (with_reducible assumption) | (with_reducible refine Ext.drewN ?_ _) | (with_reducible refine Ext.drew ?_) | (with_reducible refine Ext.alloc ?_ _) | (with_reducible refine Ext.setCell ?_ ?_ _) | (with_reducible refine Ext.setRow ?_ ?_ _) | (with_reducible exact Nat.le_refl _) | (with_reducible refine Ext.trans ?_ (by assumption)) | omega)) hxwb; have XB : Ext w16 wb := XA.trans XAB; (first | (have KU := Blk.ext KU hxwb; have CU := KU.cell; have FU := KU.frozen; have LU := KU.lt) | (have KU : Blk wb wa.heap.size 48 #[.slice none 0 0, .slice none 0 0, .int .i64 0, .int .i64 0, .slice none 0 0, .slice none 0 0, .int .i64 0, .int .i64 0, .int .i64 0, .int .i64 0, .int .i64 0, .int .i64 0] := Blk.ext (Blk.new wa _ _) hxwb; have CU := KU.cell; have FU := KU.frozen; have LU := KU.lt) | skip))
              refine hKz.out _ _ (by (try dsimp only); exact extT) (fun hHeld => ?_)
              clear hKz Kz
              (try simp only [List.getElem_toArray, List.getElem_cons_zero, List.getElem_cons_succ, Act.put, List.setIfInBounds_toArray, List.set_cons_zero, List.set_cons_succ])
              refine wpAnyH_ready (rs := [4, 5]) (by kernel_rfl) (by simp) ?_
              refine AllReadyH.cons rfl (fun Kz hKz => ?_) (AllReadyH.cons rfl (fun Kz hKz => ?_) AllReadyH.nil)
              · (try simp only [List.getElem_toArray, List.getElem_cons_zero, List.getElem_cons_succ])
                go_simp
                (go_at_call 12; refine (heardFeed_k ((g0.rd).ext (Ext.trans XAB (by repeat' (first | (with_reducible exact Ext.refl _) | (with_reducible assumption) | (with_reducible refine Ext.drewN ?_ _) | (with_reducible refine Ext.drew ?_) | (with_reducible refine Ext.alloc ?_ _) | (with_reducible refine Ext.setCell ?_ ?_ _) | (with_reducible refine Ext.setRow ?_ ?_ _) | (with_reducible exact Nat.le_refl _) | (with_reducible refine Ext.trans ?_ (by assumption)) | omega)))) ((g1.rd).ext (by repeat' (first | (with_reducible exact Ext.refl _) | (with_reducible assumption) | (with_reducible refine Ext.drewN ?_ _) | (with_reducible refine Ext.drew ?_) | (with_reducible refine Ext.alloc ?_ _) | (with_reducible refine Ext.setCell ?_ ?_ _) | (with_reducible refine Ext.setRow ?_ ?_ _) | (with_reducible exact Nat.le_refl _) | (with_reducible refine Ext.trans ?_ (by assumption)) | omega)))).mono ?_; rintro e wc ⟨_, rfl, hxwc, Fr, gr⟩; obtain ⟨ah0, nh0, kh0, ah1, nh1, kh1, ah4, nh4, kh4, ah5, nh5, kh5, rfl⟩ := gr.rd.shape; have hzwc := hxwc.size; (try simp only [size_drew, World.size_alloc] at hzwc); have XBC : Ext wb wc := Ext.trans (by repeat' (first | (with_reducible exact Ext.refl _) | (with_reducible assumption) | (with_reducible refine Ext.drewN ?_ _) | (with_reducible refine Ext.drew ?_) | (with_reducible refine Ext.alloc ?_ _) | (with_reducible refine Ext.setCell ?_ ?_ _) | (with_reducible refine Ext.setRow ?_ ?_ _) | (with_reducible exact Nat.le_refl _) | (with_reducible refine Ext.trans ?_ (by assumption)) | omega)) hxwc; have XC : Ext w16 wc := XB.trans XBC; have lr := gr.low; (try simp only [size_drew, World.size_alloc] at lr); (first | (have KU := Blk.ext KU hxwc; have CU := KU.cell; have FU := KU.frozen; have LU := KU.lt) | (have KU : Blk wc wb.heap.size 48 #[.slice none 0 0, .slice none 0 0, .int .i64 0, .int .i64 0, .slice none 0 0, .slice none 0 0, .int .i64 0, .int .i64 0, .int .i64 0, .int .i64 0, .int .i64 0, .int .i64 0] := Blk.ext (Blk.new wb _ _) hxwc; have CU := KU.cell; have FU := KU.frozen; have LU := KU.lt) | skip))
                refine hKz.out _ _ (by (try dsimp only); exact extT) (fun hHeld => ?_)
                clear hKz Kz
                (try simp only [List.getElem_toArray, List.getElem_cons_zero, List.getElem_cons_succ, Act.put, List.setIfInBounds_toArray, List.set_cons_zero, List.set_cons_succ])
                refine wpAnyH_ready (rs := [5]) (by kernel_rfl) (by simp) ?_
                refine AllReadyH.cons rfl (fun Kz hKz => ?_) AllReadyH.nil
                (try simp only [List.getElem_toArray, List.getElem_cons_zero, List.getElem_cons_succ])
                go_simp
                refine hKz.out _ _ (by (try dsimp only); exact extT) (fun hHeld => ?_)
                clear hKz Kz
                (try simp only [List.getElem_toArray, List.getElem_cons_zero, List.getElem_cons_succ, Act.put, List.setIfInBounds_toArray, List.set_cons_zero, List.set_cons_succ])
                refine wpAnyH_ready (rs := [6]) (by kernel_rfl) (by simp) ?_
                refine AllReadyH.cons rfl (fun Kz hKz => ?_) AllReadyH.nil
                (try simp only [List.getElem_toArray, List.getElem_cons_zero, List.getElem_cons_succ])
                first | (rw [if_pos (by rfl)]; refine wp_store_row 48 (.tmp 13) (.tmp 79) (by rfl) _ #[.slice ah0 nh0 kh0, .slice ah1 nh1 kh1, .int .i64 (hfD S T).State.Index, .int .i64 (hfD S T).State.Time, .slice ah4 nh4 kh4, .slice ah5 nh5 kh5, .int .i64 (hfD S T).State.Lease.Holder, .int .i64 (hfD S T).State.Lease.Epoch, .int .i64 (hfD S T).State.Lease.Until, .int .i64 (hfD S T).Num, .int .i64 (hfD S T).Last, .int .i64 (hfD S T).Busy] (by rfl) (by kernel_rfl) 48 _ KU (by kernel_rfl) rfl (by kernel_rfl) ?_) | go_simp
                refine hKz.out _ _ (by (try dsimp only); exact extT) (fun hHeld => ?_)
                clear hKz Kz
                (try simp only [List.getElem_toArray, List.getElem_cons_zero, List.getElem_cons_succ, Act.put, List.setIfInBounds_toArray, List.set_cons_zero, List.set_cons_succ])
                refine wpAnyH_done (by kernel_rfl) ?_ _
                go_wp2_with fail
                go_meet
                case rel =>
                  (try simp only [World.size_alloc, size_drew])
                  first
                    | (refine ⟨ah0, nh0, kh0, ah1, nh1, kh1, ah4, nh4, kh4, ah5, nh5, kh5, wc.heap.size, by with_reducible rfl, ?_⟩; exact ⟨XC.alloc _, XC.size, Blk.new _ _ _, Fr, (gr.ext ((Ext.refl _).alloc _)).mono (by first | omega | (simp only [World.size_alloc, size_drew]; omega)), fun k hk => ⟨by have := lr k hk; (try simp only [World.size_alloc]); omega, by have := lr k hk; omega⟩⟩)
                    | (refine ⟨ah0, nh0, kh0, ah1, nh1, kh1, ah4, nh4, kh4, ah5, nh5, kh5, w16.heap.size, by with_reducible rfl, ?_⟩; refine ⟨by repeat' (first | (with_reducible exact Ext.refl _) | (with_reducible assumption) | (with_reducible refine Ext.drewN ?_ _) | (with_reducible refine Ext.drew ?_) | (with_reducible refine Ext.alloc ?_ _) | (with_reducible refine Ext.setCell ?_ ?_ _) | (with_reducible refine Ext.setRow ?_ ?_ _) | (with_reducible exact Nat.le_refl _) | (with_reducible refine Ext.trans ?_ (by assumption)) | omega), by omega, Blk.cast (by exact blkT) (by simp only [List.setIfInBounds_toArray, List.set_cons_zero, List.set_cons_succ]), Fr, (gr.upd (fs := [w16.heap.size]) (by first | (with_reducible exact rowU _ _ _) | exact updT) (fun k hk h => by have := lr k hk; simp at h; omega)).mono (by first | omega | (simp only [World.size_alloc, size_drew]; omega)), fun k hk => ⟨by have := lr k hk; (try simp only [size_setRow, World.size_setCell]); omega, by have := lr k hk; omega⟩⟩)
                    | (refine ⟨ah0, nh0, kh0, ah1, nh1, kh1, ah4, nh4, kh4, ah5, nh5, kh5, wa.heap.size, by with_reducible rfl, ?_⟩; refine ⟨by repeat' (first | (with_reducible exact Ext.refl _) | (with_reducible assumption) | (with_reducible refine Ext.drewN ?_ _) | (with_reducible refine Ext.drew ?_) | (with_reducible refine Ext.alloc ?_ _) | (with_reducible refine Ext.setCell ?_ ?_ _) | (with_reducible refine Ext.setRow ?_ ?_ _) | (with_reducible exact Nat.le_refl _) | (with_reducible refine Ext.trans ?_ (by assumption)) | omega), by omega, Blk.cast (by exact blkT) (by simp only [List.setIfInBounds_toArray, List.set_cons_zero, List.set_cons_succ]), Fr, (gr.upd (fs := [wa.heap.size]) (by first | (with_reducible exact rowU _ _ _) | exact updT) (fun k hk h => by have := lr k hk; simp at h; omega)).mono (by first | omega | (simp only [World.size_alloc, size_drew]; omega)), fun k hk => ⟨by have := lr k hk; (try simp only [size_setRow, World.size_setCell]); omega, by have := lr k hk; omega⟩⟩)
                    | (refine ⟨ah0, nh0, kh0, ah1, nh1, kh1, ah4, nh4, kh4, ah5, nh5, kh5, wb.heap.size, by with_reducible rfl, ?_⟩; refine ⟨by repeat' (first | (with_reducible exact Ext.refl _) | (with_reducible assumption) | (with_reducible refine Ext.drewN ?_ _) | (with_reducible refine Ext.drew ?_) | (with_reducible refine Ext.alloc ?_ _) | (with_reducible refine Ext.setCell ?_ ?_ _) | (with_reducible refine Ext.setRow ?_ ?_ _) | (with_reducible exact Nat.le_refl _) | (with_reducible refine Ext.trans ?_ (by assumption)) | omega), by omega, Blk.cast (by exact blkT) (by simp only [List.setIfInBounds_toArray, List.set_cons_zero, List.set_cons_succ]), Fr, (gr.upd (fs := [wb.heap.size]) (by first | (with_reducible exact rowU _ _ _) | exact updT) (fun k hk h => by have := lr k hk; simp at h; omega)).mono (by first | omega | (simp only [World.size_alloc, size_drew]; omega)), fun k hk => ⟨by have := lr k hk; (try simp only [size_setRow, World.size_setCell]); omega, by have := lr k hk; omega⟩⟩)
              · (try simp only [List.getElem_toArray, List.getElem_cons_zero, List.getElem_cons_succ])
                go_simp
                refine hKz.out _ _ (by (try dsimp only); exact extT) (fun hHeld => ?_)
                clear hKz Kz
                (try simp only [List.getElem_toArray, List.getElem_cons_zero, List.getElem_cons_succ, Act.put, List.setIfInBounds_toArray, List.set_cons_zero, List.set_cons_succ])
                refine wpAnyH_ready (rs := [4]) (by kernel_rfl) (by simp) ?_
                refine AllReadyH.cons rfl (fun Kz hKz => ?_) AllReadyH.nil
                (try simp only [List.getElem_toArray, List.getElem_cons_zero, List.getElem_cons_succ])
                go_simp
                (go_at_call 12; refine (heardFeed_k ((g0.rd).ext (Ext.trans XAB (by repeat' (first | (with_reducible exact Ext.refl _) | (with_reducible assumption) | (with_reducible refine Ext.drewN ?_ _) | (with_reducible refine Ext.drew ?_) | (with_reducible refine Ext.alloc ?_ _) | (with_reducible refine Ext.setCell ?_ ?_ _) | (with_reducible refine Ext.setRow ?_ ?_ _) | (with_reducible exact Nat.le_refl _) | (with_reducible refine Ext.trans ?_ (by assumption)) | omega)))) ((g1.rd).ext (by repeat' (first | (with_reducible exact Ext.refl _) | (with_reducible assumption) | (with_reducible refine Ext.drewN ?_ _) | (with_reducible refine Ext.drew ?_) | (with_reducible refine Ext.alloc ?_ _) | (with_reducible refine Ext.setCell ?_ ?_ _) | (with_reducible refine Ext.setRow ?_ ?_ _) | (with_reducible exact Nat.le_refl _) | (with_reducible refine Ext.trans ?_ (by assumption)) | omega)))).mono ?_; rintro e wc ⟨_, rfl, hxwc, Fr, gr⟩; obtain ⟨ah0, nh0, kh0, ah1, nh1, kh1, ah4, nh4, kh4, ah5, nh5, kh5, rfl⟩ := gr.rd.shape; have hzwc := hxwc.size; (try simp only [size_drew, World.size_alloc] at hzwc); have XBC : Ext wb wc := Ext.trans (by repeat' (first | (with_reducible exact Ext.refl _) | (with_reducible assumption) | (with_reducible refine Ext.drewN ?_ _) | (with_reducible refine Ext.drew ?_) | (with_reducible refine Ext.alloc ?_ _) | (with_reducible refine Ext.setCell ?_ ?_ _) | (with_reducible refine Ext.setRow ?_ ?_ _) | (with_reducible exact Nat.le_refl _) | (with_reducible refine Ext.trans ?_ (by assumption)) | omega)) hxwc; have XC : Ext w16 wc := XB.trans XBC; have lr := gr.low; (try simp only [size_drew, World.size_alloc] at lr); (first | (have KU := Blk.ext KU hxwc; have CU := KU.cell; have FU := KU.frozen; have LU := KU.lt) | (have KU : Blk wc wb.heap.size 48 #[.slice none 0 0, .slice none 0 0, .int .i64 0, .int .i64 0, .slice none 0 0, .slice none 0 0, .int .i64 0, .int .i64 0, .int .i64 0, .int .i64 0, .int .i64 0, .int .i64 0] := Blk.ext (Blk.new wb _ _) hxwc; have CU := KU.cell; have FU := KU.frozen; have LU := KU.lt) | skip))
                refine hKz.out _ _ (by (try dsimp only); exact extT) (fun hHeld => ?_)
                clear hKz Kz
                (try simp only [List.getElem_toArray, List.getElem_cons_zero, List.getElem_cons_succ, Act.put, List.setIfInBounds_toArray, List.set_cons_zero, List.set_cons_succ])
                refine wpAnyH_ready (rs := [6]) (by kernel_rfl) (by simp) ?_
                refine AllReadyH.cons rfl (fun Kz hKz => ?_) AllReadyH.nil
                (try simp only [List.getElem_toArray, List.getElem_cons_zero, List.getElem_cons_succ])
                first | (rw [if_pos (by rfl)]; refine wp_store_row 48 (.tmp 13) (.tmp 79) (by rfl) _ #[.slice ah0 nh0 kh0, .slice ah1 nh1 kh1, .int .i64 (hfD S T).State.Index, .int .i64 (hfD S T).State.Time, .slice ah4 nh4 kh4, .slice ah5 nh5 kh5, .int .i64 (hfD S T).State.Lease.Holder, .int .i64 (hfD S T).State.Lease.Epoch, .int .i64 (hfD S T).State.Lease.Until, .int .i64 (hfD S T).Num, .int .i64 (hfD S T).Last, .int .i64 (hfD S T).Busy] (by rfl) (by kernel_rfl) 48 _ KU (by kernel_rfl) rfl (by kernel_rfl) ?_) | go_simp
                refine hKz.out _ _ (by (try dsimp only); exact extT) (fun hHeld => ?_)
                clear hKz Kz
                (try simp only [List.getElem_toArray, List.getElem_cons_zero, List.getElem_cons_succ, Act.put, List.setIfInBounds_toArray, List.set_cons_zero, List.set_cons_succ])
                refine wpAnyH_done (by kernel_rfl) ?_ _
                go_wp2_with fail
                go_meet
                case rel =>
                  (try simp only [World.size_alloc, size_drew])
                  first
                    | (refine ⟨ah0, nh0, kh0, ah1, nh1, kh1, ah4, nh4, kh4, ah5, nh5, kh5, wc.heap.size, by with_reducible rfl, ?_⟩; exact ⟨XC.alloc _, XC.size, Blk.new _ _ _, Fr, (gr.ext ((Ext.refl _).alloc _)).mono (by first | omega | (simp only [World.size_alloc, size_drew]; omega)), fun k hk => ⟨by have := lr k hk; (try simp only [World.size_alloc]); omega, by have := lr k hk; omega⟩⟩)
                    | (refine ⟨ah0, nh0, kh0, ah1, nh1, kh1, ah4, nh4, kh4, ah5, nh5, kh5, w16.heap.size, by with_reducible rfl, ?_⟩; refine ⟨by repeat' (first | (with_reducible exact Ext.refl _) | (with_reducible assumption) | (with_reducible refine Ext.drewN ?_ _) | (with_reducible refine Ext.drew ?_) | (with_reducible refine Ext.alloc ?_ _) | (with_reducible refine Ext.setCell ?_ ?_ _) | (with_reducible refine Ext.setRow ?_ ?_ _) | (with_reducible exact Nat.le_refl _) | (with_reducible refine Ext.trans ?_ (by assumption)) | omega), by omega, Blk.cast (by exact blkT) (by simp only [List.setIfInBounds_toArray, List.set_cons_zero, List.set_cons_succ]), Fr, (gr.upd (fs := [w16.heap.size]) (by first | (with_reducible exact rowU _ _ _) | exact updT) (fun k hk h => by have := lr k hk; simp at h; omega)).mono (by first | omega | (simp only [World.size_alloc, size_drew]; omega)), fun k hk => ⟨by have := lr k hk; (try simp only [size_setRow, World.size_setCell]); omega, by have := lr k hk; omega⟩⟩)
                    | (refine ⟨ah0, nh0, kh0, ah1, nh1, kh1, ah4, nh4, kh4, ah5, nh5, kh5, wa.heap.size, by with_reducible rfl, ?_⟩; refine ⟨by repeat' (first | (with_reducible exact Ext.refl _) | (with_reducible assumption) | (with_reducible refine Ext.drewN ?_ _) | (with_reducible refine Ext.drew ?_) | (with_reducible refine Ext.alloc ?_ _) | (with_reducible refine Ext.setCell ?_ ?_ _) | (with_reducible refine Ext.setRow ?_ ?_ _) | (with_reducible exact Nat.le_refl _) | (with_reducible refine Ext.trans ?_ (by assumption)) | omega), by omega, Blk.cast (by exact blkT) (by simp only [List.setIfInBounds_toArray, List.set_cons_zero, List.set_cons_succ]), Fr, (gr.upd (fs := [wa.heap.size]) (by first | (with_reducible exact rowU _ _ _) | exact updT) (fun k hk h => by have := lr k hk; simp at h; omega)).mono (by first | omega | (simp only [World.size_alloc, size_drew]; omega)), fun k hk => ⟨by have := lr k hk; (try simp only [size_setRow, World.size_setCell]); omega, by have := lr k hk; omega⟩⟩)
                    | (refine ⟨ah0, nh0, kh0, ah1, nh1, kh1, ah4, nh4, kh4, ah5, nh5, kh5, wb.heap.size, by with_reducible rfl, ?_⟩; refine ⟨by repeat' (first | (with_reducible exact Ext.refl _) | (with_reducible assumption) | (with_reducible refine Ext.drewN ?_ _) | (with_reducible refine Ext.drew ?_) | (with_reducible refine Ext.alloc ?_ _) | (with_reducible refine Ext.setCell ?_ ?_ _) | (with_reducible refine Ext.setRow ?_ ?_ _) | (with_reducible exact Nat.le_refl _) | (with_reducible refine Ext.trans ?_ (by assumption)) | omega), by omega, Blk.cast (by exact blkT) (by simp only [List.setIfInBounds_toArray, List.set_cons_zero, List.set_cons_succ]), Fr, (gr.upd (fs := [wb.heap.size]) (by first | (with_reducible exact rowU _ _ _) | exact updT) (fun k hk h => by have := lr k hk; simp at h; omega)).mono (by first | omega | (simp only [World.size_alloc, size_drew]; omega)), fun k hk => ⟨by have := lr k hk; (try simp only [size_setRow, World.size_setCell]); omega, by have := lr k hk; omega⟩⟩)
            · (try simp only [List.getElem_toArray, List.getElem_cons_zero, List.getElem_cons_succ])
              go_simp
              refine hKz.out _ _ (by (try dsimp only); exact extT) (fun hHeld => ?_)
              clear hKz Kz
              (try simp only [List.getElem_toArray, List.getElem_cons_zero, List.getElem_cons_succ, Act.put, List.setIfInBounds_toArray, List.set_cons_zero, List.set_cons_succ])
              refine wpAnyH_ready (rs := [3]) (by kernel_rfl) (by simp) ?_
              refine AllReadyH.cons rfl (fun Kz hKz => ?_) AllReadyH.nil
              (try simp only [List.getElem_toArray, List.getElem_cons_zero, List.getElem_cons_succ])
              go_simp
              (go_at_call 11; refine (to_Feed (h1.ext (Ext.trans E16 (by repeat' (first | (with_reducible exact Ext.refl _) | (with_reducible assumption) | (with_reducible refine Ext.drewN ?_ _) | (with_reducible refine Ext.drew ?_) | (with_reducible refine Ext.alloc ?_ _) | (with_reducible refine Ext.setCell ?_ ?_ _) | (with_reducible refine Ext.setRow ?_ ?_ _) | (with_reducible exact Nat.le_refl _) | (with_reducible refine Ext.trans ?_ (by assumption)) | omega)))) q1_0).mono ?_; rintro e wb ⟨_, rfl, hxwb, F1, g1⟩; obtain ⟨ahq2, nhq2, khq2, rfl⟩ := g1.rd.shape; have hzwb := hxwb.size; (try simp only [size_drew, World.size_alloc] at hzwb); have XAB : Ext wa wb := Ext.trans (by repeat' (first | (with_reducible exact Ext.refl _) | (with_reducible assumption) | (with_reducible refine Ext.drewN ?_ _) | (with_reducible refine Ext.drew ?_) | (with_reducible refine Ext.alloc ?_ _) | (with_reducible refine Ext.setCell ?_ ?_ _) | (with_reducible refine Ext.setRow ?_ ?_ _) | (with_reducible exact Nat.le_refl _) | (with_reducible refine Ext.trans ?_ (by assumption)) | omega)) hxwb; have XB : Ext w16 wb := XA.trans XAB; (first | (have KU := Blk.ext KU hxwb; have CU := KU.cell; have FU := KU.frozen; have LU := KU.lt) | (have KU : Blk wb wa.heap.size 48 #[.slice none 0 0, .slice none 0 0, .int .i64 0, .int .i64 0, .slice none 0 0, .slice none 0 0, .int .i64 0, .int .i64 0, .int .i64 0, .int .i64 0, .int .i64 0, .int .i64 0] := Blk.ext (Blk.new wa _ _) hxwb; have CU := KU.cell; have FU := KU.frozen; have LU := KU.lt) | skip))
              refine hKz.out _ _ (by (try dsimp only); exact extT) (fun hHeld => ?_)
              clear hKz Kz
              (try simp only [List.getElem_toArray, List.getElem_cons_zero, List.getElem_cons_succ, Act.put, List.setIfInBounds_toArray, List.set_cons_zero, List.set_cons_succ])
              refine wpAnyH_ready (rs := [4]) (by kernel_rfl) (by simp) ?_
              refine AllReadyH.cons rfl (fun Kz hKz => ?_) AllReadyH.nil
              (try simp only [List.getElem_toArray, List.getElem_cons_zero, List.getElem_cons_succ])
              go_simp
              (go_at_call 12; refine (heardFeed_k ((g0.rd).ext (Ext.trans XAB (by repeat' (first | (with_reducible exact Ext.refl _) | (with_reducible assumption) | (with_reducible refine Ext.drewN ?_ _) | (with_reducible refine Ext.drew ?_) | (with_reducible refine Ext.alloc ?_ _) | (with_reducible refine Ext.setCell ?_ ?_ _) | (with_reducible refine Ext.setRow ?_ ?_ _) | (with_reducible exact Nat.le_refl _) | (with_reducible refine Ext.trans ?_ (by assumption)) | omega)))) ((g1.rd).ext (by repeat' (first | (with_reducible exact Ext.refl _) | (with_reducible assumption) | (with_reducible refine Ext.drewN ?_ _) | (with_reducible refine Ext.drew ?_) | (with_reducible refine Ext.alloc ?_ _) | (with_reducible refine Ext.setCell ?_ ?_ _) | (with_reducible refine Ext.setRow ?_ ?_ _) | (with_reducible exact Nat.le_refl _) | (with_reducible refine Ext.trans ?_ (by assumption)) | omega)))).mono ?_; rintro e wc ⟨_, rfl, hxwc, Fr, gr⟩; obtain ⟨ah0, nh0, kh0, ah1, nh1, kh1, ah4, nh4, kh4, ah5, nh5, kh5, rfl⟩ := gr.rd.shape; have hzwc := hxwc.size; (try simp only [size_drew, World.size_alloc] at hzwc); have XBC : Ext wb wc := Ext.trans (by repeat' (first | (with_reducible exact Ext.refl _) | (with_reducible assumption) | (with_reducible refine Ext.drewN ?_ _) | (with_reducible refine Ext.drew ?_) | (with_reducible refine Ext.alloc ?_ _) | (with_reducible refine Ext.setCell ?_ ?_ _) | (with_reducible refine Ext.setRow ?_ ?_ _) | (with_reducible exact Nat.le_refl _) | (with_reducible refine Ext.trans ?_ (by assumption)) | omega)) hxwc; have XC : Ext w16 wc := XB.trans XBC; have lr := gr.low; (try simp only [size_drew, World.size_alloc] at lr); (first | (have KU := Blk.ext KU hxwc; have CU := KU.cell; have FU := KU.frozen; have LU := KU.lt) | (have KU : Blk wc wb.heap.size 48 #[.slice none 0 0, .slice none 0 0, .int .i64 0, .int .i64 0, .slice none 0 0, .slice none 0 0, .int .i64 0, .int .i64 0, .int .i64 0, .int .i64 0, .int .i64 0, .int .i64 0] := Blk.ext (Blk.new wb _ _) hxwc; have CU := KU.cell; have FU := KU.frozen; have LU := KU.lt) | skip))
              refine hKz.out _ _ (by (try dsimp only); exact extT) (fun hHeld => ?_)
              clear hKz Kz
              (try simp only [List.getElem_toArray, List.getElem_cons_zero, List.getElem_cons_succ, Act.put, List.setIfInBounds_toArray, List.set_cons_zero, List.set_cons_succ])
              refine wpAnyH_ready (rs := [6]) (by kernel_rfl) (by simp) ?_
              refine AllReadyH.cons rfl (fun Kz hKz => ?_) AllReadyH.nil
              (try simp only [List.getElem_toArray, List.getElem_cons_zero, List.getElem_cons_succ])
              first | (rw [if_pos (by rfl)]; refine wp_store_row 48 (.tmp 13) (.tmp 79) (by rfl) _ #[.slice ah0 nh0 kh0, .slice ah1 nh1 kh1, .int .i64 (hfD S T).State.Index, .int .i64 (hfD S T).State.Time, .slice ah4 nh4 kh4, .slice ah5 nh5 kh5, .int .i64 (hfD S T).State.Lease.Holder, .int .i64 (hfD S T).State.Lease.Epoch, .int .i64 (hfD S T).State.Lease.Until, .int .i64 (hfD S T).Num, .int .i64 (hfD S T).Last, .int .i64 (hfD S T).Busy] (by rfl) (by kernel_rfl) 48 _ KU (by kernel_rfl) rfl (by kernel_rfl) ?_) | go_simp
              refine hKz.out _ _ (by (try dsimp only); exact extT) (fun hHeld => ?_)
              clear hKz Kz
              (try simp only [List.getElem_toArray, List.getElem_cons_zero, List.getElem_cons_succ, Act.put, List.setIfInBounds_toArray, List.set_cons_zero, List.set_cons_succ])
              refine wpAnyH_done (by kernel_rfl) ?_ _
              go_wp2_with fail
              go_meet
              case rel =>
                (try simp only [World.size_alloc, size_drew])
                first
                  | (refine ⟨ah0, nh0, kh0, ah1, nh1, kh1, ah4, nh4, kh4, ah5, nh5, kh5, wc.heap.size, by with_reducible rfl, ?_⟩; exact ⟨XC.alloc _, XC.size, Blk.new _ _ _, Fr, (gr.ext ((Ext.refl _).alloc _)).mono (by first | omega | (simp only [World.size_alloc, size_drew]; omega)), fun k hk => ⟨by have := lr k hk; (try simp only [World.size_alloc]); omega, by have := lr k hk; omega⟩⟩)
                  | (refine ⟨ah0, nh0, kh0, ah1, nh1, kh1, ah4, nh4, kh4, ah5, nh5, kh5, w16.heap.size, by with_reducible rfl, ?_⟩; refine ⟨by repeat' (first | (with_reducible exact Ext.refl _) | (with_reducible assumption) | (with_reducible refine Ext.drewN ?_ _) | (with_reducible refine Ext.drew ?_) | (with_reducible refine Ext.alloc ?_ _) | (with_reducible refine Ext.setCell ?_ ?_ _) | (with_reducible refine Ext.setRow ?_ ?_ _) | (with_reducible exact Nat.le_refl _) | (with_reducible refine Ext.trans ?_ (by assumption)) | omega), by omega, Blk.cast (by exact blkT) (by simp only [List.setIfInBounds_toArray, List.set_cons_zero, List.set_cons_succ]), Fr, (gr.upd (fs := [w16.heap.size]) (by first | (with_reducible exact rowU _ _ _) | exact updT) (fun k hk h => by have := lr k hk; simp at h; omega)).mono (by first | omega | (simp only [World.size_alloc, size_drew]; omega)), fun k hk => ⟨by have := lr k hk; (try simp only [size_setRow, World.size_setCell]); omega, by have := lr k hk; omega⟩⟩)
                  | (refine ⟨ah0, nh0, kh0, ah1, nh1, kh1, ah4, nh4, kh4, ah5, nh5, kh5, wa.heap.size, by with_reducible rfl, ?_⟩; refine ⟨by repeat' (first | (with_reducible exact Ext.refl _) | (with_reducible assumption) | (with_reducible refine Ext.drewN ?_ _) | (with_reducible refine Ext.drew ?_) | (with_reducible refine Ext.alloc ?_ _) | (with_reducible refine Ext.setCell ?_ ?_ _) | (with_reducible refine Ext.setRow ?_ ?_ _) | (with_reducible exact Nat.le_refl _) | (with_reducible refine Ext.trans ?_ (by assumption)) | omega), by omega, Blk.cast (by exact blkT) (by simp only [List.setIfInBounds_toArray, List.set_cons_zero, List.set_cons_succ]), Fr, (gr.upd (fs := [wa.heap.size]) (by first | (with_reducible exact rowU _ _ _) | exact updT) (fun k hk h => by have := lr k hk; simp at h; omega)).mono (by first | omega | (simp only [World.size_alloc, size_drew]; omega)), fun k hk => ⟨by have := lr k hk; (try simp only [size_setRow, World.size_setCell]); omega, by have := lr k hk; omega⟩⟩)
                  | (refine ⟨ah0, nh0, kh0, ah1, nh1, kh1, ah4, nh4, kh4, ah5, nh5, kh5, wb.heap.size, by with_reducible rfl, ?_⟩; refine ⟨by repeat' (first | (with_reducible exact Ext.refl _) | (with_reducible assumption) | (with_reducible refine Ext.drewN ?_ _) | (with_reducible refine Ext.drew ?_) | (with_reducible refine Ext.alloc ?_ _) | (with_reducible refine Ext.setCell ?_ ?_ _) | (with_reducible refine Ext.setRow ?_ ?_ _) | (with_reducible exact Nat.le_refl _) | (with_reducible refine Ext.trans ?_ (by assumption)) | omega), by omega, Blk.cast (by exact blkT) (by simp only [List.setIfInBounds_toArray, List.set_cons_zero, List.set_cons_succ]), Fr, (gr.upd (fs := [wb.heap.size]) (by first | (with_reducible exact rowU _ _ _) | exact updT) (fun k hk h => by have := lr k hk; simp at h; omega)).mono (by first | omega | (simp only [World.size_alloc, size_drew]; omega)), fun k hk => ⟨by have := lr k hk; (try simp only [size_setRow, World.size_setCell]); omega, by have := lr k hk; omega⟩⟩)
          · (try simp only [List.getElem_toArray, List.getElem_cons_zero, List.getElem_cons_succ])
            go_simp
            refine hKz.out _ _ (by (try dsimp only); exact extT) (fun hHeld => ?_)
            clear hKz Kz
            (try simp only [List.getElem_toArray, List.getElem_cons_zero, List.getElem_cons_succ, Act.put, List.setIfInBounds_toArray, List.set_cons_zero, List.set_cons_succ])
            refine wpAnyH_ready (rs := [1]) (by kernel_rfl) (by simp) ?_
            refine AllReadyH.cons rfl (fun Kz hKz => ?_) AllReadyH.nil
            (try simp only [List.getElem_toArray, List.getElem_cons_zero, List.getElem_cons_succ])
            go_simp
            (go_at_call 10; refine (to_Store (h0.ext (Ext.trans E16 (by repeat' (first | (with_reducible exact Ext.refl _) | (with_reducible assumption) | (with_reducible refine Ext.drewN ?_ _) | (with_reducible refine Ext.drew ?_) | (with_reducible refine Ext.alloc ?_ _) | (with_reducible refine Ext.setCell ?_ ?_ _) | (with_reducible refine Ext.setRow ?_ ?_ _) | (with_reducible exact Nat.le_refl _) | (with_reducible refine Ext.trans ?_ (by assumption)) | omega)))) q0_0 q0_1 q0_2 q0_3).mono ?_; rintro e wa ⟨_, rfl, hxwa, F0, g0⟩; obtain ⟨ahp0, nhp0, khp0, ahp1, nhp1, khp1, ahp4, nhp4, khp4, ahp5, nhp5, khp5, rfl⟩ := g0.rd.shape; have hzwa := hxwa.size; (try simp only [size_drew, World.size_alloc] at hzwa); have XA : Ext w16 wa := Ext.trans (by repeat' (first | (with_reducible exact Ext.refl _) | (with_reducible assumption) | (with_reducible refine Ext.drewN ?_ _) | (with_reducible refine Ext.drew ?_) | (with_reducible refine Ext.alloc ?_ _) | (with_reducible refine Ext.setCell ?_ ?_ _) | (with_reducible refine Ext.setRow ?_ ?_ _) | (with_reducible exact Nat.le_refl _) | (with_reducible refine Ext.trans ?_ (by assumption)) | omega)) hxwa; (first | (have KU := Blk.ext KU hxwa; have CU := KU.cell; have FU := KU.frozen; have LU := KU.lt) | (have KU : Blk wa w16.heap.size 48 #[.slice none 0 0, .slice none 0 0, .int .i64 0, .int .i64 0, .slice none 0 0, .slice none 0 0, .int .i64 0, .int .i64 0, .int .i64 0, .int .i64 0, .int .i64 0, .int .i64 0] := Blk.ext (Blk.new w16.drew _ _) hxwa; have CU := KU.cell; have FU := KU.frozen; have LU := KU.lt) | skip))
            refine hKz.out _ _ (by (try dsimp only); exact extT) (fun hHeld => ?_)
            clear hKz Kz
            (try simp only [List.getElem_toArray, List.getElem_cons_zero, List.getElem_cons_succ, Act.put, List.setIfInBounds_toArray, List.set_cons_zero, List.set_cons_succ])
            refine wpAnyH_ready (rs := [3]) (by kernel_rfl) (by simp) ?_
            refine AllReadyH.cons rfl (fun Kz hKz => ?_) AllReadyH.nil
            (try simp only [List.getElem_toArray, List.getElem_cons_zero, List.getElem_cons_succ])
            go_simp
            (go_at_call 11; refine (to_Feed (h1.ext (Ext.trans E16 (by repeat' (first | (with_reducible exact Ext.refl _) | (with_reducible assumption) | (with_reducible refine Ext.drewN ?_ _) | (with_reducible refine Ext.drew ?_) | (with_reducible refine Ext.alloc ?_ _) | (with_reducible refine Ext.setCell ?_ ?_ _) | (with_reducible refine Ext.setRow ?_ ?_ _) | (with_reducible exact Nat.le_refl _) | (with_reducible refine Ext.trans ?_ (by assumption)) | omega)))) q1_0).mono ?_; rintro e wb ⟨_, rfl, hxwb, F1, g1⟩; obtain ⟨ahq2, nhq2, khq2, rfl⟩ := g1.rd.shape; have hzwb := hxwb.size; (try simp only [size_drew, World.size_alloc] at hzwb); have XAB : Ext wa wb := Ext.trans (by repeat' (first | (with_reducible exact Ext.refl _) | (with_reducible assumption) | (with_reducible refine Ext.drewN ?_ _) | (with_reducible refine Ext.drew ?_) | (with_reducible refine Ext.alloc ?_ _) | (with_reducible refine Ext.setCell ?_ ?_ _) | (with_reducible refine Ext.setRow ?_ ?_ _) | (with_reducible exact Nat.le_refl _) | (with_reducible refine Ext.trans ?_ (by assumption)) | omega)) hxwb; have XB : Ext w16 wb := XA.trans XAB; (first | (have KU := Blk.ext KU hxwb; have CU := KU.cell; have FU := KU.frozen; have LU := KU.lt) | (have KU : Blk wb wa.heap.size 48 #[.slice none 0 0, .slice none 0 0, .int .i64 0, .int .i64 0, .slice none 0 0, .slice none 0 0, .int .i64 0, .int .i64 0, .int .i64 0, .int .i64 0, .int .i64 0, .int .i64 0] := Blk.ext (Blk.new wa _ _) hxwb; have CU := KU.cell; have FU := KU.frozen; have LU := KU.lt) | skip))
            refine hKz.out _ _ (by (try dsimp only); exact extT) (fun hHeld => ?_)
            clear hKz Kz
            (try simp only [List.getElem_toArray, List.getElem_cons_zero, List.getElem_cons_succ, Act.put, List.setIfInBounds_toArray, List.set_cons_zero, List.set_cons_succ])
            refine wpAnyH_ready (rs := [4]) (by kernel_rfl) (by simp) ?_
            refine AllReadyH.cons rfl (fun Kz hKz => ?_) AllReadyH.nil
            (try simp only [List.getElem_toArray, List.getElem_cons_zero, List.getElem_cons_succ])
            go_simp
            (go_at_call 12; refine (heardFeed_k ((g0.rd).ext (Ext.trans XAB (by repeat' (first | (with_reducible exact Ext.refl _) | (with_reducible assumption) | (with_reducible refine Ext.drewN ?_ _) | (with_reducible refine Ext.drew ?_) | (with_reducible refine Ext.alloc ?_ _) | (with_reducible refine Ext.setCell ?_ ?_ _) | (with_reducible refine Ext.setRow ?_ ?_ _) | (with_reducible exact Nat.le_refl _) | (with_reducible refine Ext.trans ?_ (by assumption)) | omega)))) ((g1.rd).ext (by repeat' (first | (with_reducible exact Ext.refl _) | (with_reducible assumption) | (with_reducible refine Ext.drewN ?_ _) | (with_reducible refine Ext.drew ?_) | (with_reducible refine Ext.alloc ?_ _) | (with_reducible refine Ext.setCell ?_ ?_ _) | (with_reducible refine Ext.setRow ?_ ?_ _) | (with_reducible exact Nat.le_refl _) | (with_reducible refine Ext.trans ?_ (by assumption)) | omega)))).mono ?_; rintro e wc ⟨_, rfl, hxwc, Fr, gr⟩; obtain ⟨ah0, nh0, kh0, ah1, nh1, kh1, ah4, nh4, kh4, ah5, nh5, kh5, rfl⟩ := gr.rd.shape; have hzwc := hxwc.size; (try simp only [size_drew, World.size_alloc] at hzwc); have XBC : Ext wb wc := Ext.trans (by repeat' (first | (with_reducible exact Ext.refl _) | (with_reducible assumption) | (with_reducible refine Ext.drewN ?_ _) | (with_reducible refine Ext.drew ?_) | (with_reducible refine Ext.alloc ?_ _) | (with_reducible refine Ext.setCell ?_ ?_ _) | (with_reducible refine Ext.setRow ?_ ?_ _) | (with_reducible exact Nat.le_refl _) | (with_reducible refine Ext.trans ?_ (by assumption)) | omega)) hxwc; have XC : Ext w16 wc := XB.trans XBC; have lr := gr.low; (try simp only [size_drew, World.size_alloc] at lr); (first | (have KU := Blk.ext KU hxwc; have CU := KU.cell; have FU := KU.frozen; have LU := KU.lt) | (have KU : Blk wc wb.heap.size 48 #[.slice none 0 0, .slice none 0 0, .int .i64 0, .int .i64 0, .slice none 0 0, .slice none 0 0, .int .i64 0, .int .i64 0, .int .i64 0, .int .i64 0, .int .i64 0, .int .i64 0] := Blk.ext (Blk.new wb _ _) hxwc; have CU := KU.cell; have FU := KU.frozen; have LU := KU.lt) | skip))
            refine hKz.out _ _ (by (try dsimp only); exact extT) (fun hHeld => ?_)
            clear hKz Kz
            (try simp only [List.getElem_toArray, List.getElem_cons_zero, List.getElem_cons_succ, Act.put, List.setIfInBounds_toArray, List.set_cons_zero, List.set_cons_succ])
            refine wpAnyH_ready (rs := [6]) (by kernel_rfl) (by simp) ?_
            refine AllReadyH.cons rfl (fun Kz hKz => ?_) AllReadyH.nil
            (try simp only [List.getElem_toArray, List.getElem_cons_zero, List.getElem_cons_succ])
            first | (rw [if_pos (by rfl)]; refine wp_store_row 48 (.tmp 13) (.tmp 79) (by rfl) _ #[.slice ah0 nh0 kh0, .slice ah1 nh1 kh1, .int .i64 (hfD S T).State.Index, .int .i64 (hfD S T).State.Time, .slice ah4 nh4 kh4, .slice ah5 nh5 kh5, .int .i64 (hfD S T).State.Lease.Holder, .int .i64 (hfD S T).State.Lease.Epoch, .int .i64 (hfD S T).State.Lease.Until, .int .i64 (hfD S T).Num, .int .i64 (hfD S T).Last, .int .i64 (hfD S T).Busy] (by rfl) (by kernel_rfl) 48 _ KU (by kernel_rfl) rfl (by kernel_rfl) ?_) | go_simp
            refine hKz.out _ _ (by (try dsimp only); exact extT) (fun hHeld => ?_)
            clear hKz Kz
            (try simp only [List.getElem_toArray, List.getElem_cons_zero, List.getElem_cons_succ, Act.put, List.setIfInBounds_toArray, List.set_cons_zero, List.set_cons_succ])
            refine wpAnyH_done (by kernel_rfl) ?_ _
            go_wp2_with fail
            go_meet
            case rel =>
              (try simp only [World.size_alloc, size_drew])
              first
                | (refine ⟨ah0, nh0, kh0, ah1, nh1, kh1, ah4, nh4, kh4, ah5, nh5, kh5, wc.heap.size, by with_reducible rfl, ?_⟩; exact ⟨XC.alloc _, XC.size, Blk.new _ _ _, Fr, (gr.ext ((Ext.refl _).alloc _)).mono (by first | omega | (simp only [World.size_alloc, size_drew]; omega)), fun k hk => ⟨by have := lr k hk; (try simp only [World.size_alloc]); omega, by have := lr k hk; omega⟩⟩)
                | (refine ⟨ah0, nh0, kh0, ah1, nh1, kh1, ah4, nh4, kh4, ah5, nh5, kh5, w16.heap.size, by with_reducible rfl, ?_⟩; refine ⟨by repeat' (first | (with_reducible exact Ext.refl _) | (with_reducible assumption) | (with_reducible refine Ext.drewN ?_ _) | (with_reducible refine Ext.drew ?_) | (with_reducible refine Ext.alloc ?_ _) | (with_reducible refine Ext.setCell ?_ ?_ _) | (with_reducible refine Ext.setRow ?_ ?_ _) | (with_reducible exact Nat.le_refl _) | (with_reducible refine Ext.trans ?_ (by assumption)) | omega), by omega, Blk.cast (by exact blkT) (by simp only [List.setIfInBounds_toArray, List.set_cons_zero, List.set_cons_succ]), Fr, (gr.upd (fs := [w16.heap.size]) (by first | (with_reducible exact rowU _ _ _) | exact updT) (fun k hk h => by have := lr k hk; simp at h; omega)).mono (by first | omega | (simp only [World.size_alloc, size_drew]; omega)), fun k hk => ⟨by have := lr k hk; (try simp only [size_setRow, World.size_setCell]); omega, by have := lr k hk; omega⟩⟩)
                | (refine ⟨ah0, nh0, kh0, ah1, nh1, kh1, ah4, nh4, kh4, ah5, nh5, kh5, wa.heap.size, by with_reducible rfl, ?_⟩; refine ⟨by repeat' (first | (with_reducible exact Ext.refl _) | (with_reducible assumption) | (with_reducible refine Ext.drewN ?_ _) | (with_reducible refine Ext.drew ?_) | (with_reducible refine Ext.alloc ?_ _) | (with_reducible refine Ext.setCell ?_ ?_ _) | (with_reducible refine Ext.setRow ?_ ?_ _) | (with_reducible exact Nat.le_refl _) | (with_reducible refine Ext.trans ?_ (by assumption)) | omega), by omega, Blk.cast (by exact blkT) (by simp only [List.setIfInBounds_toArray, List.set_cons_zero, List.set_cons_succ]), Fr, (gr.upd (fs := [wa.heap.size]) (by first | (with_reducible exact rowU _ _ _) | exact updT) (fun k hk h => by have := lr k hk; simp at h; omega)).mono (by first | omega | (simp only [World.size_alloc, size_drew]; omega)), fun k hk => ⟨by have := lr k hk; (try simp only [size_setRow, World.size_setCell]); omega, by have := lr k hk; omega⟩⟩)
                | (refine ⟨ah0, nh0, kh0, ah1, nh1, kh1, ah4, nh4, kh4, ah5, nh5, kh5, wb.heap.size, by with_reducible rfl, ?_⟩; refine ⟨by repeat' (first | (with_reducible exact Ext.refl _) | (with_reducible assumption) | (with_reducible refine Ext.drewN ?_ _) | (with_reducible refine Ext.drew ?_) | (with_reducible refine Ext.alloc ?_ _) | (with_reducible refine Ext.setCell ?_ ?_ _) | (with_reducible refine Ext.setRow ?_ ?_ _) | (with_reducible exact Nat.le_refl _) | (with_reducible refine Ext.trans ?_ (by assumption)) | omega), by omega, Blk.cast (by exact blkT) (by simp only [List.setIfInBounds_toArray, List.set_cons_zero, List.set_cons_succ]), Fr, (gr.upd (fs := [wb.heap.size]) (by first | (with_reducible exact rowU _ _ _) | exact updT) (fun k hk h => by have := lr k hk; simp at h; omega)).mono (by first | omega | (simp only [World.size_alloc, size_drew]; omega)), fun k hk => ⟨by have := lr k hk; (try simp only [size_setRow, World.size_setCell]); omega, by have := lr k hk; omega⟩⟩)
        case rest =>
          revert wc; intro w17 hcut
          obtain ⟨ah0, nh0, kh0, ah1, nh1, kh1, ah4, nh4, kh4, ah5, nh5, kh5, bh, rfl, X17, hgeh, Bh, Fh, gh, hloh⟩ := hcut
          have lh : ∀ k, k ∈ Fh → w16.heap.size ≤ k ∧ k < w17.heap.size := fun k hk => ⟨(gh.low k hk).1, (hloh k hk).1⟩
          have hb2h : ∀ k, k ∈ Fh → k ≠ bh := fun k hk => (hloh k hk).2
          clear hloh
          have MBh := Bh.lt
          have Z17 := X17.size; have E17 : Ext w w17 := E16.trans X17
          replace Ba := Ba.ext X17
          replace Bb := Bb.ext X17
          replace Bw := Bw.ext X17
          replace gw := gw.ext X17
          replace Bx := Bx.ext X17
          replace By := By.ext X17
          replace Bg := Bg.ext X17
          replace gm := gm.ext X17
          have CBa := Ba.cell; have LBa := Ba.lt
          have CBb := Bb.cell; have LBb := Bb.lt
          have CBw := Bw.cell; have LBw := Bw.lt
          have CBx := Bx.cell; have LBx := Bx.lt
          have CBy := By.cell; have LBy := By.lt
          have CBg := Bg.cell; have LBg := Bg.lt
          have CBh := Bh.cell; have LBh := Bh.lt
          go_wp2_with fail
          refine (eq_Store ((gh.rd).ext (by repeat' (first | (with_reducible exact Ext.refl _) | (with_reducible assumption) | (with_reducible refine Ext.drewN ?_ _) | (with_reducible refine Ext.drew ?_) | (with_reducible refine Ext.alloc ?_ _) | (with_reducible refine Ext.setCell ?_ ?_ _) | (with_reducible refine Ext.setRow ?_ ?_ _) | (with_reducible exact Nat.le_refl _) | (with_reducible refine Ext.trans ?_ (by assumption)) | omega))) ((gw.rd).ext (by repeat' (first | (with_reducible exact Ext.refl _) | (with_reducible assumption) | (with_reducible refine Ext.drewN ?_ _) | (with_reducible refine Ext.drew ?_) | (with_reducible refine Ext.alloc ?_ _) | (with_reducible refine Ext.setCell ?_ ?_ _) | (with_reducible refine Ext.setRow ?_ ?_ _) | (with_reducible exact Nat.le_refl _) | (with_reducible refine Ext.trans ?_ (by assumption)) | omega)))).mono ?_
          rintro e w18 ⟨rfl, hx18⟩
          have X18 : Ext w17 w18 := by repeat' (first | (with_reducible exact Ext.refl _) | (with_reducible assumption) | (with_reducible refine Ext.drewN ?_ _) | (with_reducible refine Ext.drew ?_) | (with_reducible refine Ext.alloc ?_ _) | (with_reducible refine Ext.setCell ?_ ?_ _) | (with_reducible refine Ext.setRow ?_ ?_ _) | (with_reducible exact Nat.le_refl _) | (with_reducible refine Ext.trans ?_ (by assumption)) | omega)
          have Z18 := X18.size
          have E18 : Ext w w18 := E17.trans X18
          replace Ba := Ba.ext X18
          replace Bb := Bb.ext X18
          replace Bw := Bw.ext X18
          replace gw := gw.ext X18
          replace Bx := Bx.ext X18
          replace By := By.ext X18
          replace Bg := Bg.ext X18
          replace gm := gm.ext X18
          replace Bh := Bh.ext X18
          replace gh := gh.ext X18
          clear hx18
          clear CBa LBa CBb LBb CBw LBw CBx LBx CBy LBy CBg LBg CBh LBh
          have CBa := Ba.cell; have LBa := Ba.lt
          have CBb := Bb.cell; have LBb := Bb.lt
          have CBw := Bw.cell; have LBw := Bw.lt
          have CBx := Bx.cell; have LBx := Bx.lt
          have CBy := By.cell; have LBy := By.lt
          have CBg := Bg.cell; have LBg := Bg.lt
          have CBh := Bh.cell; have LBh := Bh.lt
          go_wp2_with fail
          refine (held_Store (gm.ext (by repeat' (first | (with_reducible exact Ext.refl _) | (with_reducible assumption) | (with_reducible refine Ext.drewN ?_ _) | (with_reducible refine Ext.drew ?_) | (with_reducible refine Ext.alloc ?_ _) | (with_reducible refine Ext.setCell ?_ ?_ _) | (with_reducible refine Ext.setRow ?_ ?_ _) | (with_reducible exact Nat.le_refl _) | (with_reducible refine Ext.trans ?_ (by assumption)) | omega))) (by omega) (by have := nb; omega)).mono ?_
          rintro e w19 ⟨rfl, hx19⟩
          rw [← HN.out]
          have X19 : Ext w18 w19 := by repeat' (first | (with_reducible exact Ext.refl _) | (with_reducible assumption) | (with_reducible refine Ext.drewN ?_ _) | (with_reducible refine Ext.drew ?_) | (with_reducible refine Ext.alloc ?_ _) | (with_reducible refine Ext.setCell ?_ ?_ _) | (with_reducible refine Ext.setRow ?_ ?_ _) | (with_reducible exact Nat.le_refl _) | (with_reducible refine Ext.trans ?_ (by assumption)) | omega)
          have Z19 := X19.size
          have E19 : Ext w w19 := E18.trans X19
          replace Ba := Ba.ext X19
          replace Bb := Bb.ext X19
          replace Bw := Bw.ext X19
          replace gw := gw.ext X19
          replace Bx := Bx.ext X19
          replace By := By.ext X19
          replace Bg := Bg.ext X19
          replace gm := gm.ext X19
          replace Bh := Bh.ext X19
          replace gh := gh.ext X19
          clear hx19
          clear CBa LBa CBb LBb CBw LBw CBx LBx CBy LBy CBg LBg CBh LBh
          have CBa := Ba.cell; have LBa := Ba.lt
          have CBb := Bb.cell; have LBb := Bb.lt
          have CBw := Bw.cell; have LBw := Bw.lt
          have CBx := Bx.cell; have LBx := Bx.lt
          have CBy := By.cell; have LBy := By.lt
          have CBg := Bg.cell; have LBg := Bg.lt
          have CBh := Bh.cell; have LBh := Bh.lt
          go_wp2
          go_ret
          exact ⟨rfl, E19⟩
end Go.Proofs.YtemfcogdjmjplaaGreat

-- The statement FnExactHeardFeed: for every input the law returns true.
namespace Go.Proofs.YtemfcogdjmjplaaGreat.fnExactHeardFeed
open Go.ChangeShapes Go.WideShapes Go.ChangeAt Go.RowKit Go.G8
open Go.Proofs.YtemfcogdjmjplaaGreat.facts (b2)

set_option maxRecDepth 100000 in
theorem lifted (os : Os) (started : os.Started) (H : Type) (enc : TypeId × Value → H) :
    ReturnsInHanded {} Tryz.checked os 3 .any (Rows.fnExactHeardFeedSpec.pre6 enc Tryz.prog Tryz.f3 Rows.fnExactHeardFeedRow.domain false) (Rows.fnExactHeardFeedSpec.post enc Tryz.prog Tryz.f3 false true false false) := by
  refine returnsInHanded_of_change (C := Tryz.checked) own started (by kernel_rfl) Tryz.func3
    (ChangeSpec.witness6 (enc := enc) (C := Tryz.checked) false ⟨#[], #[.agg #[.slice none 0 0, .slice none 0 0, .int .i64 0, .int .i64 0, .slice none 0 0, .slice none 0 0, .int .i64 0, .int .i64 0, .int .i64 0, .int .i64 0, .int .i64 0, .int .i64 0], .agg #[.int .i64 0, .int .i64 0, .slice none 0 0]], []⟩ 8 (by kernel_rfl) (by kernel_rfl) (by kernel_rfl) (by kernel_rfl)) ?_
  intro W base args ds gs before hval0 hW _ _
  have hval : ∀ (j : Nat) t v, Tryz.f3.params[j]? = some t → args[j]? = some v → Value.okWide Tryz.prog W .any base t v := hval0
  have hW' := hW
  obtain ⟨p, q, hA0, hV, rfl, hfz, hnd⟩ := hW
  have hA : DataW.TrodAll enc Tryz.prog W 0 (fun _ => true) true Tryz.f3.params.toList args.toList ds p := hA0
  rw [Tryz.params3] at hA hval
  obtain ⟨v0, vs0, d0, ds0, p0, q0, hargs, rfl, rfl, h0, r0⟩ := trodAll_cons hA
  obtain ⟨v1, vs1, d1, ds1, p1, q1, rfl, rfl, rfl, h1, r1⟩ := trodAll_cons r0
  obtain ⟨rfl, rfl, rfl⟩ := trodAll_nil r1
  obtain rfl : args = #[v0, v1] := by cases args; simp_all
  obtain ⟨rfl, rfl⟩ := trodVars_none hV
  have k0 := h0
  have lt0 : ∀ x ∈ p0, x.block < W.heap.size := by obtain ⟨m, hm⟩ := k0; exact DataW.trod_lt m _ _ _ hm
  have hv0 := hval 0 33 v0 rfl rfl
  unfold Value.okWide at hv0
  rw [Tryz.underlying33] at hv0
  obtain ⟨cs0, rfl, _, _⟩ := hv0
  obtain ⟨m0, hm0⟩ := h0
  obtain ⟨s0_0, l0_0, s0_1, l0_1, c0_2, c0_3, s0_4, l0_4, s0_5, l0_5, c0_6, c0_7, c0_8, c0_9, c0_10, c0_11, e0, g0_0, g0_1, g0_4, g0_5⟩ := rl_Store hm0
  obtain rfl : cs0 = #[s0_0, s0_1, .int .i64 c0_2, .int .i64 c0_3, s0_4, s0_5, .int .i64 c0_6, .int .i64 c0_7, .int .i64 c0_8, .int .i64 c0_9, .int .i64 c0_10, .int .i64 c0_11] := by cases cs0; simp_all [Value.cells]
  have k1 := h1
  have lt1 : ∀ x ∈ p1, x.block < W.heap.size := by obtain ⟨m, hm⟩ := k1; exact DataW.trod_lt m _ _ _ hm
  have hv1 := hval 1 36 v1 rfl rfl
  unfold Value.okWide at hv1
  rw [Tryz.underlying36] at hv1
  obtain ⟨cs1, rfl, _, _⟩ := hv1
  obtain ⟨m1, hm1⟩ := h1
  obtain ⟨c1_0, c1_1, s1_2, l1_2, e1, g1_2⟩ := rl_Feed hm1
  obtain rfl : cs1 = #[.int .i64 c1_0, .int .i64 c1_1, s1_2] := by cases cs1; simp_all [Value.cells]
  clear hA0 hval0
  refine (law_HeardFeed W _ _ _ _ _ _ _ _ _ _ _ _ _ _ _ _ _ _ _ _ g0_0 g0_1 g0_4 g0_5 g1_2).mono fun e W' ⟨he, bel0⟩ => ?_
  have bel : Below W.heap.size W W' := bel0
  subst he
  exact ⟨_, rfl, _, _, _, [], _, [], hW', trodAll_mk1 (shut_bool Tryz.underlying4 _), (trodAll_cons_mk (Below.trod laidOut (by kernel_rfl) (of_decide_eq_true (by kernel_rfl)) k0 bel lt0) (trodAll_cons_mk (Below.trod laidOut (by kernel_rfl) (of_decide_eq_true (by kernel_rfl)) k1 bel lt1) trodAll_mk0)), rfl, bel.frame _, fun h => by cases h⟩

theorem k0 : (Rows.fnExactHeardFeedRow.wf (OpenSpec.ofChange Rows.fnExactHeardFeedSpec)) = true := by kernel_rfl
theorem k1 : (laidOutB Tryz.checked.prog) = true := facts.k1
theorem k2 : (mapsRowed Tryz.checked.prog) = true := facts.k2
theorem k3 : (Tryz.f3.params.all (Tryz.checked.prog.readableRec ·)) = true := by kernel_rfl
theorem k4 : (namedTie Tryz.checked.prog Rows.fnExactHeardFeedRow.named Rows.fnExactHeardFeedSpec.vars) = true := by kernel_rfl
theorem k5 : ((Rows.fnExactHeardFeedRow.stops == [])) = true := by kernel_rfl
theorem k6 : ((Tryz.checked.prog.stops == [])) = true := facts.k6
theorem k7 : ((Rows.fnExactHeardFeedRow.knobs == [])) = true := by kernel_rfl
theorem k8 : ((Tryz.checked.prog.stopKnobs == [])) = true := facts.k8
theorem k9 : ((Rows.fnExactHeardFeedRow.inPlace == Tryz.checked.prog.inPlace 3)) = true := by kernel_rfl
theorem k10 : ((Rows.fnExactHeardFeedRow.unfollowed == Tryz.checked.prog.unfollowed 3)) = true := by kernel_rfl
theorem k11 : ((Rows.fnExactHeardFeedRow.recurses == Tryz.checked.prog.recurses 3)) = true := by kernel_rfl
theorem k12 : ((Rows.fnExactHeardFeedRow.named == Tryz.checked.prog.varsNamed 3)) = true := by kernel_rfl
theorem k13 : ((Rows.fnExactHeardFeedRow.maps == (Tryz.f3.params.toList ++ Rows.fnExactHeardFeedSpec.plain.varTypes Tryz.checked.prog).any (Tryz.checked.prog.mapsRec ·))) = true := by kernel_rfl
theorem k14 : ((Rows.fnExactHeardFeedRow.ifaces == (Tryz.f3.params.toList ++ Rows.fnExactHeardFeedSpec.plain.varTypes Tryz.checked.prog).any (Tryz.checked.prog.ifacesRec ·))) = true := by kernel_rfl
theorem k15 : ((Rows.fnExactHeardFeedRow.mapsOut == Tryz.checked.prog.mapsAmong Tryz.f3.resultTypes.toList)) = true := by kernel_rfl
theorem k16 : ((Rows.fnExactHeardFeedRow.loops == (Tryz.f3.params.toList ++ Rows.fnExactHeardFeedSpec.plain.varTypes Tryz.checked.prog).any (Tryz.checked.prog.loopsFrom ·))) = true := by kernel_rfl
theorem k17 : ((Rows.fnExactHeardFeedRow.wideKeys == (Tryz.f3.params.toList ++ Rows.fnExactHeardFeedSpec.plain.varTypes Tryz.checked.prog ++ Tryz.f3.resultTypes.toList).any (Tryz.checked.prog.wideKeysFrom ·))) = true := by kernel_rfl
theorem k18 : (Rows.fnExactHeardFeedSpec.vars.all (Tryz.checked.prog.varReadable ·)) = true := by kernel_rfl
theorem k19 : (Tryz.f3.resultTypes.all (fun t => Tryz.checked.prog.readableRec t && decide (t < Tryz.checked.prog.types.size))) = true := by kernel_rfl
theorem k20 : ((Rows.fnExactHeardFeedRow.ifacesOut == Tryz.f3.resultTypes.toList.any (Tryz.checked.prog.ifacesRec ·))) = true := by kernel_rfl
theorem k21 : ((Rows.fnExactHeardFeedRow.loopsOut == Tryz.f3.resultTypes.toList.any (Tryz.checked.prog.loopsFrom ·))) = true := by kernel_rfl
theorem k22 : ((Rows.fnExactHeardFeedRow.plainKeys == Tryz.checked.prog.plainKeys)) = true := facts.k22
theorem k23 : (Rows.fnExactHeardFeedRow.shortTexts.isNone) = true := by kernel_rfl
theorem k24 : (Tryz.checked.prog.stopsHeard) = true := facts.k24
theorem k25 : (Tryz.checked.prog.mayEnter) = true := facts.k25
theorem k26 : ((Rows.fnExactHeardFeedRow.lifted == Tryz.checked.prog.liftsFinal)) = true := facts.k26
theorem k27 : ((Tryz.checked.prog.make == some Rows.fnExactHeardFeedRow.make)) = true := facts.k27
theorem k28 : ((Rows.fnExactHeardFeedRow.kinds == (if Rows.fnExactHeardFeedRow.domain.isEmpty then [] else Tryz.f3.params.toList.map fun t => match Tryz.checked.prog.underlying t with | some (.int k) => some k | _ => none))) = true := by kernel_rfl
theorem k29 : ((Rows.fnExactHeardFeedRow.pinned == Rows.fnExactHeardFeedRow.pinnedBy)) = true := by kernel_rfl
theorem k30 : ((Rows.fnExactHeardFeedRow.veiled == (Tryz.f3.params.toList ++ Rows.fnExactHeardFeedSpec.plain.varTypes Tryz.checked.prog ++ Tryz.f3.resultTypes.toList).any (Tryz.checked.prog.veiledRec ·))) = true := by kernel_rfl
theorem k31 : (Rows.fnExactHeardFeedRow.veiledFits Tryz.checked.prog Tryz.f3.params.toList (Tryz.f3.params.toList ++ Rows.fnExactHeardFeedSpec.plain.varTypes Tryz.checked.prog ++ Tryz.f3.resultTypes.toList)) = true := by kernel_rfl
set_option maxRecDepth 100000 in
theorem closed : joinedFacts Tryz.checked.prog 3 Tryz.f3 Rows.fnExactHeardFeedSpec Rows.fnExactHeardFeedRow = true := by
  unfold joinedFacts
  exact (b2 (b2 (b2 (b2 (b2 (b2 (b2 (b2 (b2 (b2 (b2 (b2 (b2 (b2 (b2 (b2 (b2 (b2 (b2 (b2 (b2 (b2 (b2 (b2 (b2 (b2 (b2 (b2 (b2 (b2 (b2 k0 k1) k2) k3) k4) k5) k6) k7) k8) k9) k10) k11) k12) k13) k14) k15) k16) k17) k18) k19) k20) k21) k22) k23) k24) k25) k26) k27) k28) k29) k30) k31)

theorem proved : Rows.FnExactHeardFeedSaid :=
  OpenClaim.holds_of_wide 3 Tryz.f3 rfl rfl rfl rfl rfl rfl rfl ⟨rfl, rfl, rfl, rfl, rfl⟩ rfl rfl rfl rfl rfl (by as_aux_lemma => kernel_rfl) Tryz.func3 closed
    (of_decide_eq_true (by as_aux_lemma => kernel_rfl)) (by as_aux_lemma => (unfold Func.isWrapper; rw [if_neg (of_decide_eq_false (by kernel_rfl))]; exact ⟨rfl, rfl⟩))
    (fun os started H enc _ => lifted os started H enc)
end Go.Proofs.YtemfcogdjmjplaaGreat.fnExactHeardFeed
