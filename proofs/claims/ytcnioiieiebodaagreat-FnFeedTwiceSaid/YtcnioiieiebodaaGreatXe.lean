/- Contracts and plain laws: En Fd Fw Fd2. -/
import Derived.Test.YtcnioiieiebodaaGreatYa
import Derived.Test.YtcnioiieiebodaaGreatYj
import Derived.Test.YtcnioiieiebodaaGreatYb
import Derived.Test.YtcnioiieiebodaaGreatXx
set_option linter.unusedSimpArgs false
set_option linter.unusedVariables false
set_option maxHeartbeats 8000000
set_option maxRecDepth 100000
namespace Go.G8
open Go.RowKit
open Go.Proofs.YtcnioiieiebodaaGreat
def EntAt (l : List DEntry) (i : Nat) : Prop := ∀ d, l[i]? = some d → entryOk d = true ∧ (∀ e, 0 < i → l[i - 1]? = some e → d.Index = e.Index + 1 ∧ e.Time ≤ d.Time)
def EntriesOk (l : List DEntry) : Prop := l.length ≤ 2000 ∧ ∀ i, i < l.length → EntAt l i
open Classical in
noncomputable def entriesOk (l : List DEntry) : Bool := decide (EntriesOk l)
theorem entriesOk_true {l : List DEntry} (h : EntriesOk l) : entriesOk l = true := by simp [entriesOk, h]
theorem entriesOk_false {l : List DEntry} (h : ¬ EntriesOk l) : entriesOk l = false := by simp [entriesOk, h]
theorem entriesOk_iff {l : List DEntry} : entriesOk l = true ↔ EntriesOk l := by simp [entriesOk]
theorem EntAt.next {l : List DEntry} {k : Nat} {d : DEntry} (hd : l[k]? = some d) (h : ∀ i, i < k → EntAt l i) (h1 : entryOk d = true) (h2 : ∀ e, 0 < k → l[k - 1]? = some e → d.Index = e.Index + 1 ∧ e.Time ≤ d.Time) : ∀ i, i < k + 1 → EntAt l i := by
 intro i hi
 by_cases hik : i = k
 ·
  subst hik
  intro d' hd'
  rw [hd] at hd'
  obtain rfl := Option.some.inj hd'
  exact ⟨h1, h2⟩
 exact h i oM
end Go.G8
namespace Go.Proofs.YtcnioiieiebodaaGreat
open Go.RowKit Go.G8
theorem sEntriesOk_c (w : World) (s0_0 : Value) (l0_0 : List DEntry) (h0_0 : Ints 9 w s0_0 (flEntry l0_0)) : Calls Tryz.prog 107 #[s0_0] w (RetV w (.bool (entriesOk l0_0))) := by
 obtain ⟨a, cap, rfl, hcap, hm, ha⟩ := h0_0.recs (f := DEntry.ints) (fun _ => rfl) dC
 have HA := Lib.hid ha
 clear ha
 unfold maxLen at hm
 by_cases h10 : l0_0.length ≤ 2000
 rotate_left
 ·
  go_enter Tryz.func107, Tryz.ntmps107
  go_wp2
  go_ret
  exact ⟨congrArg (fun z => Ending.returned (.bool z)) (entriesOk_false (fun hh => h10 hh.1)).symm, Ext.refl _⟩
 go_enter Tryz.func107, Tryz.ntmps107
 go_wp2
 go_loopw [3] (fun i wr => ∃ k : Nat, k ≤ l0_0.length ∧ i = .int .i64 k ∧ Ext w wr ∧ Hid (∀ i, i < k → EntAt l0_0 i)) (fun i _ => l0_0.length - (intOf i).toNat)
 case atStart => exact ⟨0, Nat.zero_le _, rfl, Ext.refl _, Lib.hid (fun i hi => by omega)⟩
 case round =>
  obtain ⟨k, hk, rfl, he, HO⟩ := hrel
  by_cases hlt : k < l0_0.length
  ·
   obtain ⟨d, b1, o1, hd, rfl, hb1, c⟩ := HA.out k hlt
   have d0 := he.cell (c 0 _ dC rfl)
   have d1 := he.cell (c 1 _ dC rfl)
   have d2 := he.cell (c 2 _ dC rfl)
   have d3 := he.cell (c 3 _ dC rfl)
   have d4 := he.cell (c 4 _ dC rfl)
   have d5 := he.cell (c 5 _ dC rfl)
   have d6 := he.cell (c 6 _ dC rfl)
   have d7 := he.cell (c 7 _ dC rfl)
   have d8 := he.cell (c 8 _ dC rfl)
   simp only [Nat.add_zero] at d0
   have HD := Lib.hid hd
   clear c hd
   cases hp : entryOk d
   ·
    have x0 := d0; have x1 := d1; have x2 := d2; have x3 := d3; have x4 := d4; have x5 := d5; have x6 := d6; have x7 := d7; have x8 := d8
    have hEW : Ext w wr := he
    obtain ⟨W, hW⟩ : ∃ W, W = wr := ⟨_, rfl⟩
    (try rw [← hW] at e0); (try rw [← hW] at e1)
    rw [← hW] at x0 x1 x2 x3 x4 x5 x6 x7 x8 hEW
    go_wp2
    rw [← hW]
    clear hW
    refine wp_region_ext (by kernel_rfl) (by kernel_rfl) ?_
    repeat (first | go_big_quiet_skip | (go_big_quiet_want; first | (refine quiet_load _ _ _ ?_ rfl rfl (fun wq hq => ?_) ?_; rotate_left; (focus ((try have y0 := hq.cell x0); (try have y1 := hq.cell x1); (try have y2 := hq.cell x2); (try have y3 := hq.cell x3); (try have y4 := hq.cell x4); (try have y5 := hq.cell x5); (try have y6 := hq.cell x6); (try have y7 := hq.cell x7); (try have y8 := hq.cell x8); (try have z0 := hq.cell e0); (try have z1 := hq.cell e1); go_simp; first | done | rfl)); (try simp only [redA, Act.put]); go_big_quiet_on) | (go_big_quiet_op; first | go_big_quiet_on | (refine ⟨_, fun _ _ => rfl, ?_⟩; go_big_quiet_on) | (apply Exists.intro; refine ⟨fun wq hq => ?_, ?_⟩; (focus (exact call_ext hq (by have c := sEntryOk_e wq d.Index d.Time d.Client d.Seq d.Op.Kind d.Op.A d.Op.B d.Op.C d.Op.D; rw [show entryOk (⟨d.Index, d.Time, d.Client, d.Seq, ⟨d.Op.Kind, d.Op.A, d.Op.B, d.Op.C, d.Op.D⟩⟩ : DEntry) = false from hp] at c; exact c))); go_big_quiet_on))))
    refine wpQuiet_nil ?_
    intro w1 hx1
    go_wp2
    go_ret
    exact ⟨congrArg (fun z => Ending.returned (.bool z)) (entriesOk_false (fun hh => by have := (hh.2 k hlt d HD.out).1; rw [hp] at this; cases this)).symm, hEW.trans hx1⟩
   by_cases hk0 : k = 0
   ·
    subst hk0
    (try simp only [Nat.zero_mul, Nat.add_zero] at d0 d1 d2 d3 d4 d5 d6 d7 d8)
    have x0 := d0; have x1 := d1; have x2 := d2; have x3 := d3; have x4 := d4; have x5 := d5; have x6 := d6; have x7 := d7; have x8 := d8
    have hEW : Ext w wr := he
    obtain ⟨W, hW⟩ : ∃ W, W = wr := ⟨_, rfl⟩
    (try rw [← hW] at e0); (try rw [← hW] at e1)
    rw [← hW] at x0 x1 x2 x3 x4 x5 x6 x7 x8 hEW
    go_wp2
    rw [← hW]
    clear hW
    refine wp_region_ext (by kernel_rfl) (by kernel_rfl) ?_
    repeat (first | go_big_quiet_skip | (go_big_quiet_want; first | (refine quiet_load _ _ _ ?_ rfl rfl (fun wq hq => ?_) ?_; rotate_left; (focus ((try have y0 := hq.cell x0); (try have y1 := hq.cell x1); (try have y2 := hq.cell x2); (try have y3 := hq.cell x3); (try have y4 := hq.cell x4); (try have y5 := hq.cell x5); (try have y6 := hq.cell x6); (try have y7 := hq.cell x7); (try have y8 := hq.cell x8); (try have z0 := hq.cell e0); (try have z1 := hq.cell e1); go_simp; first | done | rfl)); (try simp only [redA, Act.put]); go_big_quiet_on) | (go_big_quiet_op; first | go_big_quiet_on | (refine ⟨_, fun _ _ => rfl, ?_⟩; go_big_quiet_on) | (apply Exists.intro; refine ⟨fun wq hq => ?_, ?_⟩; (focus (exact call_ext hq (by have c := sEntryOk_e wq d.Index d.Time d.Client d.Seq d.Op.Kind d.Op.A d.Op.B d.Op.C d.Op.D; rw [show entryOk (⟨d.Index, d.Time, d.Client, d.Seq, ⟨d.Op.Kind, d.Op.A, d.Op.B, d.Op.C, d.Op.D⟩⟩ : DEntry) = true from hp] at c; exact c))); go_big_quiet_on))))
    refine wpQuiet_nil ?_
    intro w1 hx1
    go_wp2
    go_roundw
    case rel => exact ⟨0 + 1, by omega, by go_num, hEW.trans hx1, Lib.hid (EntAt.next HD.out HO.out hp (fun e' hh hl => by omega))⟩
    case measure => simp [intOf]; omega
   obtain ⟨e, b2, o2, hde, hbo, _, c⟩ := HA.out (k - 1) oM
   obtain ⟨rfl, rfl⟩ : b1 = b2 ∧ o1 = o2 := by simpa using hbo
   have e0 := he.cell (c 0 _ dC rfl)
   have e1 := he.cell (c 1 _ dC rfl)
   simp only [Nat.add_zero] at e0
   have HE := Lib.hid hde
   obtain ⟨b01, b02, _, _⟩ := entryOk_parts (HO.out (k - 1) oM e hde).1
   clear c hde hbo
   have hk1 : decide (0 < k) = true := by simp; omega
   by_cases hi : d.Index = e.Index + 1
   rotate_left
   ·
    have hi' : (d.Index != e.Index + 1) = true := by simp [hi]
    clear hi
    have x0 := d0; have x1 := d1; have x2 := d2; have x3 := d3; have x4 := d4; have x5 := d5; have x6 := d6; have x7 := d7; have x8 := d8
    have hEW : Ext w wr := he
    obtain ⟨W, hW⟩ : ∃ W, W = wr := ⟨_, rfl⟩
    (try rw [← hW] at e0); (try rw [← hW] at e1)
    rw [← hW] at x0 x1 x2 x3 x4 x5 x6 x7 x8 hEW
    go_wp2
    rw [← hW]
    clear hW
    refine wp_region_ext (by kernel_rfl) (by kernel_rfl) ?_
    repeat (first | go_big_quiet_skip | (go_big_quiet_want; first | (refine quiet_load _ _ _ ?_ rfl rfl (fun wq hq => ?_) ?_; rotate_left; (focus ((try have y0 := hq.cell x0); (try have y1 := hq.cell x1); (try have y2 := hq.cell x2); (try have y3 := hq.cell x3); (try have y4 := hq.cell x4); (try have y5 := hq.cell x5); (try have y6 := hq.cell x6); (try have y7 := hq.cell x7); (try have y8 := hq.cell x8); (try have z0 := hq.cell e0); (try have z1 := hq.cell e1); go_simp; first | done | rfl)); (try simp only [redA, Act.put]); go_big_quiet_on) | (go_big_quiet_op; first | go_big_quiet_on | (refine ⟨_, fun _ _ => rfl, ?_⟩; go_big_quiet_on) | (apply Exists.intro; refine ⟨fun wq hq => ?_, ?_⟩; (focus (exact call_ext hq (by have c := sEntryOk_e wq d.Index d.Time d.Client d.Seq d.Op.Kind d.Op.A d.Op.B d.Op.C d.Op.D; rw [show entryOk (⟨d.Index, d.Time, d.Client, d.Seq, ⟨d.Op.Kind, d.Op.A, d.Op.B, d.Op.C, d.Op.D⟩⟩ : DEntry) = true from hp] at c; exact c))); go_big_quiet_on))))
    refine wpQuiet_nil ?_
    intro w1 hx1
    go_wp2
    go_ret
    exact ⟨congrArg (fun z => Ending.returned (.bool z)) (entriesOk_false (fun hh => by have := ((hh.2 k hlt d HD.out).2 e oM HE.out).1; simp [this] at hi')).symm, hEW.trans hx1⟩
   have hi' : (d.Index != e.Index + 1) = false := by simp [hi]
   have HI := Lib.hid hi
   clear hi
   by_cases ht : d.Time < e.Time
   ·
    have ht' : decide (d.Time < e.Time) = true := by simpa using ht
    have x0 := d0; have x1 := d1; have x2 := d2; have x3 := d3; have x4 := d4; have x5 := d5; have x6 := d6; have x7 := d7; have x8 := d8
    have hEW : Ext w wr := he
    obtain ⟨W, hW⟩ : ∃ W, W = wr := ⟨_, rfl⟩
    (try rw [← hW] at e0); (try rw [← hW] at e1)
    rw [← hW] at x0 x1 x2 x3 x4 x5 x6 x7 x8 hEW
    go_wp2
    rw [← hW]
    clear hW
    refine wp_region_ext (by kernel_rfl) (by kernel_rfl) ?_
    repeat (first | go_big_quiet_skip | (go_big_quiet_want; first | (refine quiet_load _ _ _ ?_ rfl rfl (fun wq hq => ?_) ?_; rotate_left; (focus ((try have y0 := hq.cell x0); (try have y1 := hq.cell x1); (try have y2 := hq.cell x2); (try have y3 := hq.cell x3); (try have y4 := hq.cell x4); (try have y5 := hq.cell x5); (try have y6 := hq.cell x6); (try have y7 := hq.cell x7); (try have y8 := hq.cell x8); (try have z0 := hq.cell e0); (try have z1 := hq.cell e1); go_simp; first | done | rfl)); (try simp only [redA, Act.put]); go_big_quiet_on) | (go_big_quiet_op; first | go_big_quiet_on | (refine ⟨_, fun _ _ => rfl, ?_⟩; go_big_quiet_on) | (apply Exists.intro; refine ⟨fun wq hq => ?_, ?_⟩; (focus (exact call_ext hq (by have c := sEntryOk_e wq d.Index d.Time d.Client d.Seq d.Op.Kind d.Op.A d.Op.B d.Op.C d.Op.D; rw [show entryOk (⟨d.Index, d.Time, d.Client, d.Seq, ⟨d.Op.Kind, d.Op.A, d.Op.B, d.Op.C, d.Op.D⟩⟩ : DEntry) = true from hp] at c; exact c))); go_big_quiet_on))))
    refine wpQuiet_nil ?_
    intro w1 hx1
    go_wp2
    go_ret
    exact ⟨congrArg (fun z => Ending.returned (.bool z)) (entriesOk_false (fun hh => by have := ((hh.2 k hlt d HD.out).2 e oM HE.out).2; omega)).symm, hEW.trans hx1⟩
   have ht' : decide (d.Time < e.Time) = false := by simpa using ht
   have x0 := d0; have x1 := d1; have x2 := d2; have x3 := d3; have x4 := d4; have x5 := d5; have x6 := d6; have x7 := d7; have x8 := d8
   have hEW : Ext w wr := he
   obtain ⟨W, hW⟩ : ∃ W, W = wr := ⟨_, rfl⟩
   (try rw [← hW] at e0); (try rw [← hW] at e1)
   rw [← hW] at x0 x1 x2 x3 x4 x5 x6 x7 x8 hEW
   go_wp2
   rw [← hW]
   clear hW
   refine wp_region_ext (by kernel_rfl) (by kernel_rfl) ?_
   repeat (first | go_big_quiet_skip | (go_big_quiet_want; first | (refine quiet_load _ _ _ ?_ rfl rfl (fun wq hq => ?_) ?_; rotate_left; (focus ((try have y0 := hq.cell x0); (try have y1 := hq.cell x1); (try have y2 := hq.cell x2); (try have y3 := hq.cell x3); (try have y4 := hq.cell x4); (try have y5 := hq.cell x5); (try have y6 := hq.cell x6); (try have y7 := hq.cell x7); (try have y8 := hq.cell x8); (try have z0 := hq.cell e0); (try have z1 := hq.cell e1); go_simp; first | done | rfl)); (try simp only [redA, Act.put]); go_big_quiet_on) | (go_big_quiet_op; first | go_big_quiet_on | (refine ⟨_, fun _ _ => rfl, ?_⟩; go_big_quiet_on) | (apply Exists.intro; refine ⟨fun wq hq => ?_, ?_⟩; (focus (exact call_ext hq (by have c := sEntryOk_e wq d.Index d.Time d.Client d.Seq d.Op.Kind d.Op.A d.Op.B d.Op.C d.Op.D; rw [show entryOk (⟨d.Index, d.Time, d.Client, d.Seq, ⟨d.Op.Kind, d.Op.A, d.Op.B, d.Op.C, d.Op.D⟩⟩ : DEntry) = true from hp] at c; exact c))); go_big_quiet_on))))
   refine wpQuiet_nil ?_
   intro w1 hx1
   go_wp2
   go_roundw
   case rel => exact ⟨k + 1, by omega, by go_num, hEW.trans hx1, Lib.hid (EntAt.next HD.out HO.out hp (fun e' hh hl => by rw [HE.out] at hl; obtain rfl := Option.some.inj hl; exact ⟨HI.out, by omega⟩))⟩
   case measure => simp [intOf]; omega
  obtain rfl : k = l0_0.length := by omega
  go_wp2
  go_ret
  exact ⟨congrArg (fun z => Ending.returned (.bool z)) (entriesOk_true ⟨h10, HO.out⟩).symm, he⟩
theorem entriesOk_c (w : World) (s0_0 : Value) (l0_0 : List DEntry) (h0_0 : Ints 9 w s0_0 (flEntry l0_0)) : Calls Tryz.prog 162 #[s0_0] w (RetV w (.bool (entriesOk l0_0))) := by
 obtain ⟨a, cap, rfl, hcap, hm, ha⟩ := h0_0.recs (f := DEntry.ints) (fun _ => rfl) dC
 have HA := Lib.hid ha
 clear ha
 unfold maxLen at hm
 by_cases h10 : l0_0.length ≤ 2000
 rotate_left
 ·
  go_enter Tryz.func162, Tryz.ntmps162
  go_wp2
  go_ret
  exact ⟨congrArg (fun z => Ending.returned (.bool z)) (entriesOk_false (fun hh => h10 hh.1)).symm, Ext.refl _⟩
 go_enter Tryz.func162, Tryz.ntmps162
 go_wp2
 go_loopw [10] (fun i wr => ∃ k : Nat, k ≤ l0_0.length ∧ i = .int .i64 k ∧ Ext w wr ∧ Hid (∀ i, i < k → EntAt l0_0 i)) (fun i _ => l0_0.length - (intOf i).toNat)
 case atStart => exact ⟨0, Nat.zero_le _, rfl, Ext.refl _, Lib.hid (fun i hi => by omega)⟩
 case round =>
  obtain ⟨k, hk, rfl, he, HO⟩ := hrel
  by_cases hlt : k < l0_0.length
  ·
   obtain ⟨d, b1, o1, hd, rfl, hb1, c⟩ := HA.out k hlt
   have d0 := he.cell (c 0 _ dC rfl)
   have d1 := he.cell (c 1 _ dC rfl)
   have d2 := he.cell (c 2 _ dC rfl)
   have d3 := he.cell (c 3 _ dC rfl)
   have d4 := he.cell (c 4 _ dC rfl)
   have d5 := he.cell (c 5 _ dC rfl)
   have d6 := he.cell (c 6 _ dC rfl)
   have d7 := he.cell (c 7 _ dC rfl)
   have d8 := he.cell (c 8 _ dC rfl)
   simp only [Nat.add_zero] at d0
   have HD := Lib.hid hd
   clear c hd
   cases hp : entryOk d
   ·
    go_wp2
    obtain ⟨W, hW⟩ : ∃ W, W = wr.alloc (.cells #[.int .i64 d.Index, .int .i64 d.Time, .int .i64 d.Client, .int .i64 d.Seq, .int .i64 d.Op.Kind, .int .i64 d.Op.A, .int .i64 d.Op.B, .int .i64 d.Op.C, .int .i64 d.Op.D] 105) := ⟨_, rfl⟩
    have x0 : W.cell? ⟨wr.heap.size, 0, none⟩ = some (.int .i64 d.Index) := by rw [hW]; simp
    have x1 : W.cell? ⟨wr.heap.size, 1, none⟩ = some (.int .i64 d.Time) := by rw [hW]; simp
    have x2 : W.cell? ⟨wr.heap.size, 2, none⟩ = some (.int .i64 d.Client) := by rw [hW]; simp
    have x3 : W.cell? ⟨wr.heap.size, 3, none⟩ = some (.int .i64 d.Seq) := by rw [hW]; simp
    have x4 : W.cell? ⟨wr.heap.size, 4, none⟩ = some (.int .i64 d.Op.Kind) := by rw [hW]; simp
    have x5 : W.cell? ⟨wr.heap.size, 5, none⟩ = some (.int .i64 d.Op.A) := by rw [hW]; simp
    have x6 : W.cell? ⟨wr.heap.size, 6, none⟩ = some (.int .i64 d.Op.B) := by rw [hW]; simp
    have x7 : W.cell? ⟨wr.heap.size, 7, none⟩ = some (.int .i64 d.Op.C) := by rw [hW]; simp
    have x8 : W.cell? ⟨wr.heap.size, 8, none⟩ = some (.int .i64 d.Op.D) := by rw [hW]; simp
    have hEW : Ext w W := by rw [hW]; exact he.alloc _
    (try have e0 := (show Ext wr W by rw [hW]; exact (Ext.refl _).alloc _).cell e0); (try have e1 := (show Ext wr W by rw [hW]; exact (Ext.refl _).alloc _).cell e1)
    rw [← hW]
    clear hW
    refine wp_region_ext (by kernel_rfl) (by kernel_rfl) ?_
    repeat (first | go_big_quiet_skip | (go_big_quiet_want; first | (refine quiet_load _ _ _ ?_ rfl rfl (fun wq hq => ?_) ?_; rotate_left; (focus ((try have y0 := hq.cell x0); (try have y1 := hq.cell x1); (try have y2 := hq.cell x2); (try have y3 := hq.cell x3); (try have y4 := hq.cell x4); (try have y5 := hq.cell x5); (try have y6 := hq.cell x6); (try have y7 := hq.cell x7); (try have y8 := hq.cell x8); (try have z0 := hq.cell e0); (try have z1 := hq.cell e1); go_simp; first | done | rfl)); (try simp only [redA, Act.put]); go_big_quiet_on) | (go_big_quiet_op; first | go_big_quiet_on | (refine ⟨_, fun _ _ => rfl, ?_⟩; go_big_quiet_on) | (apply Exists.intro; refine ⟨fun wq hq => ?_, ?_⟩; (focus (exact call_ext hq (by have c := entryOk_e wq d.Index d.Time d.Client d.Seq d.Op.Kind d.Op.A d.Op.B d.Op.C d.Op.D; rw [show entryOk (⟨d.Index, d.Time, d.Client, d.Seq, ⟨d.Op.Kind, d.Op.A, d.Op.B, d.Op.C, d.Op.D⟩⟩ : DEntry) = false from hp] at c; exact c))); go_big_quiet_on))))
    refine wpQuiet_nil ?_
    intro w1 hx1
    go_wp2
    go_ret
    exact ⟨congrArg (fun z => Ending.returned (.bool z)) (entriesOk_false (fun hh => by have := (hh.2 k hlt d HD.out).1; rw [hp] at this; cases this)).symm, hEW.trans hx1⟩
   by_cases hk0 : k = 0
   ·
    subst hk0
    (try simp only [Nat.zero_mul, Nat.add_zero] at d0 d1 d2 d3 d4 d5 d6 d7 d8)
    go_wp2
    obtain ⟨W, hW⟩ : ∃ W, W = wr.alloc (.cells #[.int .i64 d.Index, .int .i64 d.Time, .int .i64 d.Client, .int .i64 d.Seq, .int .i64 d.Op.Kind, .int .i64 d.Op.A, .int .i64 d.Op.B, .int .i64 d.Op.C, .int .i64 d.Op.D] 105) := ⟨_, rfl⟩
    have x0 : W.cell? ⟨wr.heap.size, 0, none⟩ = some (.int .i64 d.Index) := by rw [hW]; simp
    have x1 : W.cell? ⟨wr.heap.size, 1, none⟩ = some (.int .i64 d.Time) := by rw [hW]; simp
    have x2 : W.cell? ⟨wr.heap.size, 2, none⟩ = some (.int .i64 d.Client) := by rw [hW]; simp
    have x3 : W.cell? ⟨wr.heap.size, 3, none⟩ = some (.int .i64 d.Seq) := by rw [hW]; simp
    have x4 : W.cell? ⟨wr.heap.size, 4, none⟩ = some (.int .i64 d.Op.Kind) := by rw [hW]; simp
    have x5 : W.cell? ⟨wr.heap.size, 5, none⟩ = some (.int .i64 d.Op.A) := by rw [hW]; simp
    have x6 : W.cell? ⟨wr.heap.size, 6, none⟩ = some (.int .i64 d.Op.B) := by rw [hW]; simp
    have x7 : W.cell? ⟨wr.heap.size, 7, none⟩ = some (.int .i64 d.Op.C) := by rw [hW]; simp
    have x8 : W.cell? ⟨wr.heap.size, 8, none⟩ = some (.int .i64 d.Op.D) := by rw [hW]; simp
    have hEW : Ext w W := by rw [hW]; exact he.alloc _
    (try have e0 := (show Ext wr W by rw [hW]; exact (Ext.refl _).alloc _).cell e0); (try have e1 := (show Ext wr W by rw [hW]; exact (Ext.refl _).alloc _).cell e1)
    rw [← hW]
    clear hW
    refine wp_region_ext (by kernel_rfl) (by kernel_rfl) ?_
    repeat (first | go_big_quiet_skip | (go_big_quiet_want; first | (refine quiet_load _ _ _ ?_ rfl rfl (fun wq hq => ?_) ?_; rotate_left; (focus ((try have y0 := hq.cell x0); (try have y1 := hq.cell x1); (try have y2 := hq.cell x2); (try have y3 := hq.cell x3); (try have y4 := hq.cell x4); (try have y5 := hq.cell x5); (try have y6 := hq.cell x6); (try have y7 := hq.cell x7); (try have y8 := hq.cell x8); (try have z0 := hq.cell e0); (try have z1 := hq.cell e1); go_simp; first | done | rfl)); (try simp only [redA, Act.put]); go_big_quiet_on) | (go_big_quiet_op; first | go_big_quiet_on | (refine ⟨_, fun _ _ => rfl, ?_⟩; go_big_quiet_on) | (apply Exists.intro; refine ⟨fun wq hq => ?_, ?_⟩; (focus (exact call_ext hq (by have c := entryOk_e wq d.Index d.Time d.Client d.Seq d.Op.Kind d.Op.A d.Op.B d.Op.C d.Op.D; rw [show entryOk (⟨d.Index, d.Time, d.Client, d.Seq, ⟨d.Op.Kind, d.Op.A, d.Op.B, d.Op.C, d.Op.D⟩⟩ : DEntry) = true from hp] at c; exact c))); go_big_quiet_on))))
    refine wpQuiet_nil ?_
    intro w1 hx1
    go_wp2
    go_roundw
    case rel => exact ⟨0 + 1, by omega, by go_num, hEW.trans hx1, Lib.hid (EntAt.next HD.out HO.out hp (fun e' hh hl => by omega))⟩
    case measure => simp [intOf]; omega
   obtain ⟨e, b2, o2, hde, hbo, _, c⟩ := HA.out (k - 1) oM
   obtain ⟨rfl, rfl⟩ : b1 = b2 ∧ o1 = o2 := by simpa using hbo
   have e0 := he.cell (c 0 _ dC rfl)
   have e1 := he.cell (c 1 _ dC rfl)
   simp only [Nat.add_zero] at e0
   have HE := Lib.hid hde
   obtain ⟨b01, b02, _, _⟩ := entryOk_parts (HO.out (k - 1) oM e hde).1
   clear c hde hbo
   have hk1 : decide (0 < k) = true := by simp; omega
   by_cases hi : d.Index = e.Index + 1
   rotate_left
   ·
    have hi' : (d.Index != e.Index + 1) = true := by simp [hi]
    clear hi
    go_wp2
    obtain ⟨W, hW⟩ : ∃ W, W = wr.alloc (.cells #[.int .i64 d.Index, .int .i64 d.Time, .int .i64 d.Client, .int .i64 d.Seq, .int .i64 d.Op.Kind, .int .i64 d.Op.A, .int .i64 d.Op.B, .int .i64 d.Op.C, .int .i64 d.Op.D] 105) := ⟨_, rfl⟩
    have x0 : W.cell? ⟨wr.heap.size, 0, none⟩ = some (.int .i64 d.Index) := by rw [hW]; simp
    have x1 : W.cell? ⟨wr.heap.size, 1, none⟩ = some (.int .i64 d.Time) := by rw [hW]; simp
    have x2 : W.cell? ⟨wr.heap.size, 2, none⟩ = some (.int .i64 d.Client) := by rw [hW]; simp
    have x3 : W.cell? ⟨wr.heap.size, 3, none⟩ = some (.int .i64 d.Seq) := by rw [hW]; simp
    have x4 : W.cell? ⟨wr.heap.size, 4, none⟩ = some (.int .i64 d.Op.Kind) := by rw [hW]; simp
    have x5 : W.cell? ⟨wr.heap.size, 5, none⟩ = some (.int .i64 d.Op.A) := by rw [hW]; simp
    have x6 : W.cell? ⟨wr.heap.size, 6, none⟩ = some (.int .i64 d.Op.B) := by rw [hW]; simp
    have x7 : W.cell? ⟨wr.heap.size, 7, none⟩ = some (.int .i64 d.Op.C) := by rw [hW]; simp
    have x8 : W.cell? ⟨wr.heap.size, 8, none⟩ = some (.int .i64 d.Op.D) := by rw [hW]; simp
    have hEW : Ext w W := by rw [hW]; exact he.alloc _
    (try have e0 := (show Ext wr W by rw [hW]; exact (Ext.refl _).alloc _).cell e0); (try have e1 := (show Ext wr W by rw [hW]; exact (Ext.refl _).alloc _).cell e1)
    rw [← hW]
    clear hW
    refine wp_region_ext (by kernel_rfl) (by kernel_rfl) ?_
    repeat (first | go_big_quiet_skip | (go_big_quiet_want; first | (refine quiet_load _ _ _ ?_ rfl rfl (fun wq hq => ?_) ?_; rotate_left; (focus ((try have y0 := hq.cell x0); (try have y1 := hq.cell x1); (try have y2 := hq.cell x2); (try have y3 := hq.cell x3); (try have y4 := hq.cell x4); (try have y5 := hq.cell x5); (try have y6 := hq.cell x6); (try have y7 := hq.cell x7); (try have y8 := hq.cell x8); (try have z0 := hq.cell e0); (try have z1 := hq.cell e1); go_simp; first | done | rfl)); (try simp only [redA, Act.put]); go_big_quiet_on) | (go_big_quiet_op; first | go_big_quiet_on | (refine ⟨_, fun _ _ => rfl, ?_⟩; go_big_quiet_on) | (apply Exists.intro; refine ⟨fun wq hq => ?_, ?_⟩; (focus (exact call_ext hq (by have c := entryOk_e wq d.Index d.Time d.Client d.Seq d.Op.Kind d.Op.A d.Op.B d.Op.C d.Op.D; rw [show entryOk (⟨d.Index, d.Time, d.Client, d.Seq, ⟨d.Op.Kind, d.Op.A, d.Op.B, d.Op.C, d.Op.D⟩⟩ : DEntry) = true from hp] at c; exact c))); go_big_quiet_on))))
    refine wpQuiet_nil ?_
    intro w1 hx1
    go_wp2
    go_ret
    exact ⟨congrArg (fun z => Ending.returned (.bool z)) (entriesOk_false (fun hh => by have := ((hh.2 k hlt d HD.out).2 e oM HE.out).1; simp [this] at hi')).symm, hEW.trans hx1⟩
   have hi' : (d.Index != e.Index + 1) = false := by simp [hi]
   have HI := Lib.hid hi
   clear hi
   by_cases ht : d.Time < e.Time
   ·
    have ht' : decide (d.Time < e.Time) = true := by simpa using ht
    go_wp2
    obtain ⟨W, hW⟩ : ∃ W, W = wr.alloc (.cells #[.int .i64 d.Index, .int .i64 d.Time, .int .i64 d.Client, .int .i64 d.Seq, .int .i64 d.Op.Kind, .int .i64 d.Op.A, .int .i64 d.Op.B, .int .i64 d.Op.C, .int .i64 d.Op.D] 105) := ⟨_, rfl⟩
    have x0 : W.cell? ⟨wr.heap.size, 0, none⟩ = some (.int .i64 d.Index) := by rw [hW]; simp
    have x1 : W.cell? ⟨wr.heap.size, 1, none⟩ = some (.int .i64 d.Time) := by rw [hW]; simp
    have x2 : W.cell? ⟨wr.heap.size, 2, none⟩ = some (.int .i64 d.Client) := by rw [hW]; simp
    have x3 : W.cell? ⟨wr.heap.size, 3, none⟩ = some (.int .i64 d.Seq) := by rw [hW]; simp
    have x4 : W.cell? ⟨wr.heap.size, 4, none⟩ = some (.int .i64 d.Op.Kind) := by rw [hW]; simp
    have x5 : W.cell? ⟨wr.heap.size, 5, none⟩ = some (.int .i64 d.Op.A) := by rw [hW]; simp
    have x6 : W.cell? ⟨wr.heap.size, 6, none⟩ = some (.int .i64 d.Op.B) := by rw [hW]; simp
    have x7 : W.cell? ⟨wr.heap.size, 7, none⟩ = some (.int .i64 d.Op.C) := by rw [hW]; simp
    have x8 : W.cell? ⟨wr.heap.size, 8, none⟩ = some (.int .i64 d.Op.D) := by rw [hW]; simp
    have hEW : Ext w W := by rw [hW]; exact he.alloc _
    (try have e0 := (show Ext wr W by rw [hW]; exact (Ext.refl _).alloc _).cell e0); (try have e1 := (show Ext wr W by rw [hW]; exact (Ext.refl _).alloc _).cell e1)
    rw [← hW]
    clear hW
    refine wp_region_ext (by kernel_rfl) (by kernel_rfl) ?_
    repeat (first | go_big_quiet_skip | (go_big_quiet_want; first | (refine quiet_load _ _ _ ?_ rfl rfl (fun wq hq => ?_) ?_; rotate_left; (focus ((try have y0 := hq.cell x0); (try have y1 := hq.cell x1); (try have y2 := hq.cell x2); (try have y3 := hq.cell x3); (try have y4 := hq.cell x4); (try have y5 := hq.cell x5); (try have y6 := hq.cell x6); (try have y7 := hq.cell x7); (try have y8 := hq.cell x8); (try have z0 := hq.cell e0); (try have z1 := hq.cell e1); go_simp; first | done | rfl)); (try simp only [redA, Act.put]); go_big_quiet_on) | (go_big_quiet_op; first | go_big_quiet_on | (refine ⟨_, fun _ _ => rfl, ?_⟩; go_big_quiet_on) | (apply Exists.intro; refine ⟨fun wq hq => ?_, ?_⟩; (focus (exact call_ext hq (by have c := entryOk_e wq d.Index d.Time d.Client d.Seq d.Op.Kind d.Op.A d.Op.B d.Op.C d.Op.D; rw [show entryOk (⟨d.Index, d.Time, d.Client, d.Seq, ⟨d.Op.Kind, d.Op.A, d.Op.B, d.Op.C, d.Op.D⟩⟩ : DEntry) = true from hp] at c; exact c))); go_big_quiet_on))))
    refine wpQuiet_nil ?_
    intro w1 hx1
    go_wp2
    go_ret
    exact ⟨congrArg (fun z => Ending.returned (.bool z)) (entriesOk_false (fun hh => by have := ((hh.2 k hlt d HD.out).2 e oM HE.out).2; omega)).symm, hEW.trans hx1⟩
   have ht' : decide (d.Time < e.Time) = false := by simpa using ht
   go_wp2
   obtain ⟨W, hW⟩ : ∃ W, W = wr.alloc (.cells #[.int .i64 d.Index, .int .i64 d.Time, .int .i64 d.Client, .int .i64 d.Seq, .int .i64 d.Op.Kind, .int .i64 d.Op.A, .int .i64 d.Op.B, .int .i64 d.Op.C, .int .i64 d.Op.D] 105) := ⟨_, rfl⟩
   have x0 : W.cell? ⟨wr.heap.size, 0, none⟩ = some (.int .i64 d.Index) := by rw [hW]; simp
   have x1 : W.cell? ⟨wr.heap.size, 1, none⟩ = some (.int .i64 d.Time) := by rw [hW]; simp
   have x2 : W.cell? ⟨wr.heap.size, 2, none⟩ = some (.int .i64 d.Client) := by rw [hW]; simp
   have x3 : W.cell? ⟨wr.heap.size, 3, none⟩ = some (.int .i64 d.Seq) := by rw [hW]; simp
   have x4 : W.cell? ⟨wr.heap.size, 4, none⟩ = some (.int .i64 d.Op.Kind) := by rw [hW]; simp
   have x5 : W.cell? ⟨wr.heap.size, 5, none⟩ = some (.int .i64 d.Op.A) := by rw [hW]; simp
   have x6 : W.cell? ⟨wr.heap.size, 6, none⟩ = some (.int .i64 d.Op.B) := by rw [hW]; simp
   have x7 : W.cell? ⟨wr.heap.size, 7, none⟩ = some (.int .i64 d.Op.C) := by rw [hW]; simp
   have x8 : W.cell? ⟨wr.heap.size, 8, none⟩ = some (.int .i64 d.Op.D) := by rw [hW]; simp
   have hEW : Ext w W := by rw [hW]; exact he.alloc _
   (try have e0 := (show Ext wr W by rw [hW]; exact (Ext.refl _).alloc _).cell e0); (try have e1 := (show Ext wr W by rw [hW]; exact (Ext.refl _).alloc _).cell e1)
   rw [← hW]
   clear hW
   refine wp_region_ext (by kernel_rfl) (by kernel_rfl) ?_
   repeat (first | go_big_quiet_skip | (go_big_quiet_want; first | (refine quiet_load _ _ _ ?_ rfl rfl (fun wq hq => ?_) ?_; rotate_left; (focus ((try have y0 := hq.cell x0); (try have y1 := hq.cell x1); (try have y2 := hq.cell x2); (try have y3 := hq.cell x3); (try have y4 := hq.cell x4); (try have y5 := hq.cell x5); (try have y6 := hq.cell x6); (try have y7 := hq.cell x7); (try have y8 := hq.cell x8); (try have z0 := hq.cell e0); (try have z1 := hq.cell e1); go_simp; first | done | rfl)); (try simp only [redA, Act.put]); go_big_quiet_on) | (go_big_quiet_op; first | go_big_quiet_on | (refine ⟨_, fun _ _ => rfl, ?_⟩; go_big_quiet_on) | (apply Exists.intro; refine ⟨fun wq hq => ?_, ?_⟩; (focus (exact call_ext hq (by have c := entryOk_e wq d.Index d.Time d.Client d.Seq d.Op.Kind d.Op.A d.Op.B d.Op.C d.Op.D; rw [show entryOk (⟨d.Index, d.Time, d.Client, d.Seq, ⟨d.Op.Kind, d.Op.A, d.Op.B, d.Op.C, d.Op.D⟩⟩ : DEntry) = true from hp] at c; exact c))); go_big_quiet_on))))
   refine wpQuiet_nil ?_
   intro w1 hx1
   go_wp2
   go_roundw
   case rel => exact ⟨k + 1, by omega, by go_num, hEW.trans hx1, Lib.hid (EntAt.next HD.out HO.out hp (fun e' hh hl => by rw [HE.out] at hl; obtain rfl := Option.some.inj hl; exact ⟨HI.out, by omega⟩))⟩
   case measure => simp [intOf]; omega
  obtain rfl : k = l0_0.length := by omega
  go_wp2
  go_ret
  exact ⟨congrArg (fun z => Ending.returned (.bool z)) (entriesOk_true ⟨h10, HO.out⟩).symm, he⟩
end Go.Proofs.YtcnioiieiebodaaGreat
namespace Go.G8
open Go.RowKit
open Go.Proofs.YtcnioiieiebodaaGreat
noncomputable def feedOk (f : DFeed) : Bool := inb f.Base 0 f.Last && (decide (f.Last ≤ 2000) && (decide (f.Entries.length ≤ 3) && (entriesOk f.Entries && f.Entries.all (fun e => decide (f.Base < e.Index) && decide (e.Index ≤ f.Last)))))
theorem entries_up {l : List DEntry} (h : entriesOk l = true) : ∀ (n i : Nat) (d e : DEntry), l[i + n]? = some d → l[i]? = some e → e.Index ≤ d.Index := by
 have h := (entriesOk_iff.1 h).2
 intro n
 induction n with
 | zero => intro i d e hd he; rw [Nat.add_zero, he] at hd; obtain rfl := Option.some.inj hd; exact Int.le_refl _
 | succ n ih =>
  intro i d e hd he
  have hlt := (List.getElem?_eq_some_iff.1 hd).1
  have hm : l[i + n]? = some l[i + n] := List.getElem?_eq_getElem oM
  have h1 := ih i _ e hm he
  have h2 := (h (i + (n + 1)) hlt d hd).2 l[i + n] oM (by rw [show i + (n + 1) - 1 = i + n by omega]; exact hm)
  omega
theorem feed_ends {f : DFeed} {d e : DEntry} (h : entriesOk f.Entries = true) (hd : f.Entries[0]? = some d) (he : f.Entries[f.Entries.length - 1]? = some e) : f.Entries.all (fun e => decide (f.Base < e.Index) && decide (e.Index ≤ f.Last)) = (decide (f.Base < d.Index) && decide (e.Index ≤ f.Last)) := by
 have h0 := (List.getElem?_eq_some_iff.1 hd).1
 rw [Bool.eq_iff_iff, List.all_eq_true, Bool.and_eq_true]
 simp only [decide_eq_true_eq, Bool.and_eq_true]
 constructor
 ·
  intro hall
  exact ⟨(hall d (List.mem_of_getElem? hd)).1, (hall e (List.mem_of_getElem? he)).2⟩
 rintro ⟨h1, h2⟩ x hx
 obtain ⟨i, hi⟩ := List.mem_iff_getElem?.1 hx
 have hlt := (List.getElem?_eq_some_iff.1 hi).1
 have h3 := entries_up h i 0 x d (by rw [Nat.zero_add]; exact hi) hd
 have h4 := entries_up h (f.Entries.length - 1 - i) i e x (by rw [show i + (f.Entries.length - 1 - i) = f.Entries.length - 1 by omega]; exact he) hi
 omega
end Go.G8
namespace Go.Proofs.YtcnioiieiebodaaGreat
open Go.RowKit Go.G8
def RdFeed (w : World) (v : Value) (f : DFeed) : Prop := ∃ t2 : Value, v = .agg #[.int .i64 f.Base, .int .i64 f.Last, t2] ∧ Ints 9 w t2 (flEntry f.Entries)
theorem RdFeed.ext {w w' : World} {v : Value} {f : DFeed} (h : RdFeed w v f) (x : Ext w w') : RdFeed w' v f := let ⟨t, e, h⟩ := h; ⟨t, e, h.ext x⟩
theorem mustBe_yes (w : World) : Calls Tryz.prog 118 #[.bool true] w (fun e w' => e = .returned (.tuple #[]) ∧ w = w') := by
 go_enter Tryz.func118, Tryz.ntmps118
 go_wp2_with fail
 go_end0
 exact ⟨rfl, rfl⟩
theorem mustBe_no (w : World) : Calls Tryz.prog 118 #[.bool false] w (fun e w' => (∃ v, e = .panicked [{ v := .iface 9 v, recovered := false }]) ∧ w = w') := by
 go_enter Tryz.func118, Tryz.ntmps118
 go_wp2_with fail
 exact ⟨rfl, ⟨_, rfl⟩, rfl⟩
theorem feedOk_r {w : World} {v : Value} {f : DFeed} (h : RdFeed w v f) : Calls Tryz.prog 119 #[v] w (RetV w (.bool (feedOk f))) := by
 obtain ⟨t2, rfl, h2⟩ := h
 have HL := Lib.hid h2
 obtain ⟨a2, k2, rfl, hcap, hm, ha⟩ := h2.recs (f := DEntry.ints) (fun _ => rfl) dC
 have HA := Lib.hid ha
 clear ha h2
 unfold maxLen at hm
 obtain ⟨W1, hW1⟩ : ∃ W1, W1 = w.alloc (.cells #[.int .i64 f.Base, .int .i64 f.Last, .slice a2 f.Entries.length k2] 68) := ⟨_, rfl⟩
 have E1 : Ext w W1 := by rw [hW1]; exact (Ext.refl _).alloc _
 have KF1 : Blk W1 w.heap.size 68 #[.int .i64 f.Base, .int .i64 f.Last, .slice a2 f.Entries.length k2] := by rw [hW1]; exact Blk.new _ _ _
 have HW1 := Lib.hid hW1
 clear hW1
 have C1 := KF1.cell; have L1 := KF1.lt
 go_enter Tryz.func119, Tryz.ntmps119
 go_wp2_with fail
 rw [← HW1.out]
 go_wp2_with fail
 refine (between_c _ f.Base 0 f.Last).mono ?_
 rintro e9 w1 ⟨rfl, rfl⟩
 cases hb : inb f.Base 0 f.Last
 ·
  have HE := Lib.hid (show feedOk f = false from by simp [feedOk, hb])
  go_wp2_with fail
  go_ret
  exact ⟨by (rw [HE.out]; try rfl), E1⟩
 have HB9 := Lib.hid hb
 clear hb
 by_cases hl : f.Last ≤ 2000
 rotate_left
 ·
  have HE := Lib.hid (show feedOk f = false from by simp [feedOk, hl])
  go_wp2_with fail
  go_ret
  exact ⟨by (rw [HE.out]; try rfl), E1⟩
 by_cases hn : f.Entries.length ≤ 3
 rotate_left
 ·
  have HE := Lib.hid (show feedOk f = false from by simp [feedOk, hn])
  go_wp2_with fail
  go_ret
  exact ⟨by (rw [HE.out]; try rfl), E1⟩
 go_wp2_with fail
 refine (entriesOk_c _ _ f.Entries (HL.out.ext E1)).mono ?_
 rintro e9 w2 ⟨rfl, hx2⟩
 have E2 := E1.trans hx2
 have KF2 := KF1.ext hx2
 clear C1 L1
 have C2 := KF2.cell; have L2 := KF2.lt
 cases he : entriesOk f.Entries
 ·
  have HE := Lib.hid (show feedOk f = false from by simp [feedOk, he])
  go_wp2_with fail
  go_ret
  exact ⟨by (rw [HE.out]; try rfl), E2⟩
 have HEO := Lib.hid he
 clear he
 have HALL : Hid (feedOk f = f.Entries.all (fun e => decide (f.Base < e.Index) && decide (e.Index ≤ f.Last))) := Lib.hid (by simp [feedOk, HB9.out, hl, hn, HEO.out])
 go_wp2_with fail
 go_loopw [31] (fun i wr => ∃ k : Nat, k ≤ f.Entries.length ∧ i = .int .i64 k ∧ Ext W1 wr ∧ Hid ((f.Entries.take k).all (fun e => decide (f.Base < e.Index) && decide (e.Index ≤ f.Last)) = true)) (fun i _ => f.Entries.length - (intOf i).toNat)
 case atStart => exact ⟨0, Nat.zero_le _, rfl, hx2, Lib.hid (by simp)⟩
 case round =>
  obtain ⟨k, hk, rfl, hr, hall⟩ := hrel
  have Er := E1.trans hr
  have KFr := KF1.ext hr
  clear C2 L2
  by_cases hlt : k < f.Entries.length
  ·
   obtain ⟨d, b1, o1, hd, rfl, hb1, c⟩ := HA.out k hlt
   have d0 := Er.cell (c 0 _ dC rfl)
   have d1 := Er.cell (c 1 _ dC rfl)
   have d2 := Er.cell (c 2 _ dC rfl)
   have d3 := Er.cell (c 3 _ dC rfl)
   have d4 := Er.cell (c 4 _ dC rfl)
   have d5 := Er.cell (c 5 _ dC rfl)
   have d6 := Er.cell (c 6 _ dC rfl)
   have d7 := Er.cell (c 7 _ dC rfl)
   have d8 := Er.cell (c 8 _ dC rfl)
   simp only [Nat.add_zero] at d0
   have HD := Lib.hid hd
   clear c hd
   have Cr := KFr.cell; have Lr := KFr.lt
   by_cases q1 : d.Index ≤ f.Base
   ·
    have HE := Lib.hid (show feedOk f = false from by rw [HALL.out]; exact all_no HD.out (by simp; omega))
    go_wp2_with fail
    go_ret
    exact ⟨by (rw [HE.out]; try rfl), Er.alloc _⟩
   by_cases q2 : f.Last < d.Index
   ·
    have HE := Lib.hid (show feedOk f = false from by rw [HALL.out]; exact all_no HD.out (by simp; omega))
    go_wp2_with fail
    go_ret
    exact ⟨by (rw [HE.out]; try rfl), Er.alloc _⟩
   go_wp2_with fail
   go_roundw
   case rel => exact ⟨k + 1, by omega, by go_num, hr.alloc _, Lib.hid (all_step HD.out hall.out (by simp; omega))⟩
   case measure => simp [intOf]; omega
  obtain rfl : k = f.Entries.length := by omega
  have HE := Lib.hid (show feedOk f = true from by rw [HALL.out]; have := hall.out; rwa [List.take_length] at this)
  go_wp2_with fail
  go_ret
  exact ⟨by (rw [HE.out]; try rfl), Er⟩
end Go.Proofs.YtcnioiieiebodaaGreat
namespace Go.G8
open Go.RowKit
open Go.Proofs.YtcnioiieiebodaaGreat
noncomputable def feedS : DState → List DEntry → DState
 | s, [] => s
 | s, e :: t => feedS (if nextIn s e then stepS s e else s) t
theorem feedS_snoc (a : List DEntry) (e : DEntry) : ∀ s : DState, feedS s (a ++ [e]) = (if nextIn (feedS s a) e then stepS (feedS s a) e else feedS s a) := by
 induction a with
 | nil => intro s; rfl
 | cons x a ih => intro s; exact ih _
theorem feedS_next {s m : DState} {l : List DEntry} {k : Nat} {e : DEntry} (h : feedS s (l.take k) = m) (he : l[k]? = some e) : feedS s (l.take (k + 1)) = (if nextIn m e then stepS m e else m) := by
 rw [List.take_add_one, he, Option.toList_some, feedS_snoc, h]
theorem feedS_ok (a : List DEntry) : ∀ s : DState, stateOk s = true → stateOk (feedS s a) = true := by
 induction a with
 | nil => intro s h; exact h
 | cons e a ih =>
  intro s h
  simp only [feedS]
  split
  ·
   rename_i hn; exact ih _ (stepS_ok h hn)
  exact ih _ h
end Go.G8
namespace Go.Proofs.YtcnioiieiebodaaGreat
open Go.RowKit Go.G8
theorem followed_no {w : World} {B : Nat} {v u : Value} {s : DState} {f : DFeed} (h : IsState B w v s) (hB : B ≤ w.heap.size) (hf : RdFeed w u f) (hs : stateOk s = true) (hno : feedOk f = false) : Calls Tryz.prog 68 #[v, u] w (fun e w' => (∃ x, e = .panicked [{ v := .iface 9 x, recovered := false }]) ∧ Ext w w') := by
 have HS := Lib.hid h.rd
 have HSO := Lib.hid hs
 have HF := Lib.hid hf
 obtain ⟨t4, t5, rfl, h4, h5⟩ := h
 obtain ⟨a4, n4, k4, rfl⟩ := h4.shape
 obtain ⟨a5, n5, k5, rfl⟩ := h5.shape
 obtain ⟨t2, rfl, h2⟩ := hf
 obtain ⟨a2, k2, rfl, hcap, hm, ha⟩ := h2.recs (f := DEntry.ints) (fun _ => rfl) dC
 have HA := Lib.hid ha
 clear ha h2 hs
 unfold maxLen at hm
 obtain ⟨W1, hW1⟩ : ∃ W1, W1 = ((w.alloc (.cells #[.int .i64 s.Index, .int .i64 s.Time, .slice a4 n4 k4, .slice a5 n5 k5, .int .i64 s.Lease.Holder, .int .i64 s.Lease.Epoch, .int .i64 s.Lease.Until] 63)).alloc (.cells #[.int .i64 f.Base, .int .i64 f.Last, .slice a2 f.Entries.length k2] 68)).alloc (.cells #[.int .i64 0, .int .i64 0, .slice none 0 0, .slice none 0 0, .int .i64 0, .int .i64 0, .int .i64 0] 63) := ⟨_, rfl⟩
 have E1 : Ext w W1 := by rw [hW1]; exact (((Ext.refl _).alloc _).alloc _).alloc _
 have KX1 : Blk W1 w.heap.size 63 #[.int .i64 s.Index, .int .i64 s.Time, .slice a4 n4 k4, .slice a5 n5 k5, .int .i64 s.Lease.Holder, .int .i64 s.Lease.Epoch, .int .i64 s.Lease.Until] := by rw [hW1]; exact ((Blk.new _ _ _).alloc _).alloc _
 have KF1 : Blk W1 (w.heap.size + 1) 68 #[.int .i64 f.Base, .int .i64 f.Last, .slice a2 f.Entries.length k2] := by rw [hW1]; exact (Blk.new2 _ _ _ _).alloc _
 have KR1 : Blk W1 (w.heap.size + 1 + 1) 63 #[.int .i64 0, .int .i64 0, .slice none 0 0, .slice none 0 0, .int .i64 0, .int .i64 0, .int .i64 0] := by rw [hW1]; exact Blk.new3 _ _ _ _ _
 have hz1' : w.heap.size + 2 < W1.heap.size := by rw [hW1]; simp
 have HW1 := Lib.hid hW1
 clear hW1
 have CX1 := KX1.cell; have FX1 := KX1.frozen; have LX1 := KX1.lt; have CF1 := KF1.cell; have FF1 := KF1.frozen; have LF1 := KF1.lt; have CR1 := KR1.cell; have FR1 := KR1.frozen; have LR1 := KR1.lt
 go_enter Tryz.func68, Tryz.ntmps68
 go_wp2_with fail
 rw [← HW1.out]
 go_wp2_with fail
 refine (feedOk_r (HF.out.ext E1)).mono ?_
 rintro e9 w2 ⟨rfl, hx2⟩
 have E2 := E1.trans hx2
 have hz2 := hx2.size
 have KX2 := KX1.ext hx2; have KF2 := KF1.ext hx2; have KR2 := KR1.ext hx2
 clear CX1 FX1 LX1 CF1 FF1 LF1 CR1 FR1 LR1
 have CX2 := KX2.cell; have FX2 := KX2.frozen; have LX2 := KX2.lt; have CF2 := KF2.cell; have FF2 := KF2.frozen; have LF2 := KF2.lt; have CR2 := KR2.cell; have FR2 := KR2.frozen; have LR2 := KR2.lt
 rw [hno]
 go_wp2_with fail
 refine (mustBe_no _).mono ?_
 rintro e9 w3 ⟨⟨x, rfl⟩, rfl⟩
 go_wp2_with fail
 exact ⟨rfl, ⟨_, rfl⟩, E2⟩
theorem followed_yes {w : World} {B : Nat} {v u : Value} {s : DState} {f : DFeed} (h : IsState B w v s) (hB : B ≤ w.heap.size) (hf : RdFeed w u f) (hs : stateOk s = true) (hyes : feedOk f = true) : Calls Tryz.prog 68 #[v, u] w (Ret w fun r w' => IsState B w' r (feedS s f.Entries)) := by
 have HS := Lib.hid h.rd
 have HSO := Lib.hid hs
 have HF := Lib.hid hf
 obtain ⟨t4, t5, rfl, h4, h5⟩ := h
 obtain ⟨a4, n4, k4, rfl⟩ := h4.shape
 obtain ⟨a5, n5, k5, rfl⟩ := h5.shape
 obtain ⟨t2, rfl, h2⟩ := hf
 obtain ⟨a2, k2, rfl, hcap, hm, ha⟩ := h2.recs (f := DEntry.ints) (fun _ => rfl) dC
 have HA := Lib.hid ha
 clear ha h2 hs
 unfold maxLen at hm
 obtain ⟨W1, hW1⟩ : ∃ W1, W1 = ((w.alloc (.cells #[.int .i64 s.Index, .int .i64 s.Time, .slice a4 n4 k4, .slice a5 n5 k5, .int .i64 s.Lease.Holder, .int .i64 s.Lease.Epoch, .int .i64 s.Lease.Until] 63)).alloc (.cells #[.int .i64 f.Base, .int .i64 f.Last, .slice a2 f.Entries.length k2] 68)).alloc (.cells #[.int .i64 0, .int .i64 0, .slice none 0 0, .slice none 0 0, .int .i64 0, .int .i64 0, .int .i64 0] 63) := ⟨_, rfl⟩
 have E1 : Ext w W1 := by rw [hW1]; exact (((Ext.refl _).alloc _).alloc _).alloc _
 have KX1 : Blk W1 w.heap.size 63 #[.int .i64 s.Index, .int .i64 s.Time, .slice a4 n4 k4, .slice a5 n5 k5, .int .i64 s.Lease.Holder, .int .i64 s.Lease.Epoch, .int .i64 s.Lease.Until] := by rw [hW1]; exact ((Blk.new _ _ _).alloc _).alloc _
 have KF1 : Blk W1 (w.heap.size + 1) 68 #[.int .i64 f.Base, .int .i64 f.Last, .slice a2 f.Entries.length k2] := by rw [hW1]; exact (Blk.new2 _ _ _ _).alloc _
 have KR1 : Blk W1 (w.heap.size + 1 + 1) 63 #[.int .i64 0, .int .i64 0, .slice none 0 0, .slice none 0 0, .int .i64 0, .int .i64 0, .int .i64 0] := by rw [hW1]; exact Blk.new3 _ _ _ _ _
 have hz1' : w.heap.size + 2 < W1.heap.size := by rw [hW1]; simp
 have HW1 := Lib.hid hW1
 clear hW1
 have CX1 := KX1.cell; have FX1 := KX1.frozen; have LX1 := KX1.lt; have CF1 := KF1.cell; have FF1 := KF1.frozen; have LF1 := KF1.lt; have CR1 := KR1.cell; have FR1 := KR1.frozen; have LR1 := KR1.lt
 go_enter Tryz.func68, Tryz.ntmps68
 go_wp2_with fail
 rw [← HW1.out]
 go_wp2_with fail
 refine (feedOk_r (HF.out.ext E1)).mono ?_
 rintro e9 w2 ⟨rfl, hx2⟩
 have E2 := E1.trans hx2
 have hz2 := hx2.size
 have KX2 := KX1.ext hx2; have KF2 := KF1.ext hx2; have KR2 := KR1.ext hx2
 clear CX1 FX1 LX1 CF1 FF1 LF1 CR1 FR1 LR1
 have CX2 := KX2.cell; have FX2 := KX2.frozen; have LX2 := KX2.lt; have CF2 := KF2.cell; have FF2 := KF2.frozen; have LF2 := KF2.lt; have CR2 := KR2.cell; have FR2 := KR2.frozen; have LR2 := KR2.lt
 rw [hyes]
 go_wp2_with fail
 refine (mustBe_yes _).mono ?_
 rintro e9 w3 ⟨rfl, rfl⟩
 obtain ⟨X, hX⟩ : ∃ X, X = w.heap.size := ⟨_, rfl⟩
 have g4 : OwnI B 157 2 w2 (.slice a4 n4 k4) (flPair s.Pairs) := Own.ext h4 E2
 have g5 : OwnI B 142 5 w2 (.slice a5 n5 k5) (flJob s.Jobs) := Own.ext h5 E2
 have HX := Lib.hid hX
 clear hX hyes
 go_wp2_with fail
 go_loopw [13] (fun ii wr => ∃ (k : Nat) (m : DState) (b2 : Option Addr) (q2 o2 : Nat) (b3 : Option Addr) (q3 o3 : Nat), k ≤ f.Entries.length ∧ ii = .int .i64 k ∧ Ext w wr ∧ Blk wr w.heap.size 63 #[.int .i64 m.Index, .int .i64 m.Time, .slice b2 q2 o2, .slice b3 q3 o3, .int .i64 m.Lease.Holder, .int .i64 m.Lease.Epoch, .int .i64 m.Lease.Until] ∧ Blk wr (w.heap.size + 1 + 1) 63 #[.int .i64 0, .int .i64 0, .slice none 0 0, .slice none 0 0, .int .i64 0, .int .i64 0, .int .i64 0] ∧ OwnI B 157 2 wr (.slice b2 q2 o2) (flPair m.Pairs) ∧ OwnI B 142 5 wr (.slice b3 q3 o3) (flJob m.Jobs) ∧ Hid (feedS s (f.Entries.take k) = m) ∧ Hid (stateOk m = true)) (fun ii _ => f.Entries.length - (intOf ii).toNat)
 case atStart => exact ⟨0, s, a4, n4, k4, a5, n5, k5, Nat.zero_le _, rfl, E2, KX2, KR2, g4, g5, Lib.hid rfl, HSO⟩
 case round =>
  obtain ⟨k, m, b2, q2, o2, b3, q3, o3, hk, rfl, he, KX, KR, P0, J0, hf, hmo⟩ := hrel
  clear CX2 FX2 LX2 CF2 FF2 LF2 CR2 FR2 LR2
  have hzr := he.size
  have hRD : RdState wr (.agg #[.int .i64 m.Index, .int .i64 m.Time, .slice b2 q2 o2, .slice b3 q3 o3, .int .i64 m.Lease.Holder, .int .i64 m.Lease.Epoch, .int .i64 m.Lease.Until]) m := ⟨_, _, rfl, P0.ints, J0.ints⟩
  have HRD := Lib.hid hRD
  clear hRD
  have hxl := KX.lt
  by_cases hlt : k < f.Entries.length
  ·
   obtain ⟨d, b1, o1, hd, rfl, hb1, c⟩ := HA.out k hlt
   have d0 := he.cell (c 0 _ dC rfl)
   have d1 := he.cell (c 1 _ dC rfl)
   have d2 := he.cell (c 2 _ dC rfl)
   have d3 := he.cell (c 3 _ dC rfl)
   have d4 := he.cell (c 4 _ dC rfl)
   have d5 := he.cell (c 5 _ dC rfl)
   have d6 := he.cell (c 6 _ dC rfl)
   have d7 := he.cell (c 7 _ dC rfl)
   have d8 := he.cell (c 8 _ dC rfl)
   simp only [Nat.add_zero] at d0
   have HD := Lib.hid hd
   clear c hd
   obtain ⟨w5, hW5⟩ : ∃ w5, w5 = wr.alloc (.cells #[.int .i64 d.Index, .int .i64 d.Time, .int .i64 d.Client, .int .i64 d.Seq, .int .i64 d.Op.Kind, .int .i64 d.Op.A, .int .i64 d.Op.B, .int .i64 d.Op.C, .int .i64 d.Op.D] 105) := ⟨_, rfl⟩
   have X5 : Ext wr w5 := by rw [hW5]; exact (Ext.refl _).alloc _
   have KE5 : Blk w5 wr.heap.size 105 #[.int .i64 d.Index, .int .i64 d.Time, .int .i64 d.Client, .int .i64 d.Seq, .int .i64 d.Op.Kind, .int .i64 d.Op.A, .int .i64 d.Op.B, .int .i64 d.Op.C, .int .i64 d.Op.D] := by rw [hW5]; exact Blk.new _ _ _
   have KX5 := KX.ext X5; have KR5 := KR.ext X5
   have HW5 := Lib.hid hW5
   have hz5 : w5.heap.size = wr.heap.size + 1 := by rw [hW5]; simp
   have HZ5 := Lib.hid hz5
   have hz5' : wr.heap.size < w5.heap.size := by omega
   clear hW5 hz5
   have CX := KX.cell; have LX := KX.lt
   go_wp2_with fail
   rw [← HW5.out]
   clear CX LX d0 d1 d2 d3 d4 d5 d6 d7 d8
   have CX5 := KX5.cell; have FX5 := KX5.frozen; have LX5 := KX5.lt; have CE5 := KE5.cell; have FE5 := KE5.frozen; have LE5 := KE5.lt; have CR5 := KR5.cell; have FR5 := KR5.frozen; have LR5 := KR5.lt
   have hmi := stateOk_parts hmo.out
   refine (nextIn_k (HRD.out.ext X5) d.Index d.Time d.Client d.Seq d.Op.Kind d.Op.A d.Op.B d.Op.C d.Op.D hmi.1 hmi.2.1).mono ?_
   rintro e9 w6 ⟨rfl, hx6⟩
   clear hmi
   have X6 := X5.trans hx6
   have hz6 := hx6.size
   have KX6 := KX5.ext hx6; have KE6 := KE5.ext hx6; have KR6 := KR5.ext hx6
   clear CX5 FX5 LX5 CE5 FE5 LE5 CR5 FR5 LR5
   have CX6 := KX6.cell; have FX6 := KX6.frozen; have LX6 := KX6.lt; have CE6 := KE6.cell; have FE6 := KE6.frozen; have LE6 := KE6.lt; have CR6 := KR6.cell; have FR6 := KR6.frozen; have LR6 := KR6.lt
   have hdd : (⟨d.Index, d.Time, d.Client, d.Seq, ⟨d.Op.Kind, d.Op.A, d.Op.B, d.Op.C, d.Op.D⟩⟩ : DEntry) = d := rfl
   rw [hdd]
   clear hdd
   cases hn : nextIn m d
   ·
    have hnx : feedS s (f.Entries.take (k + 1)) = m := by rw [feedS_next hf.out HD.out, hn]; rfl
    have HNX := Lib.hid hnx
    clear hnx hn
    go_wp2_with fail
    go_roundw
    case rel => exact ⟨k + 1, m, b2, q2, o2, b3, q3, o3, by omega, by go_num, he.trans X6, KX6, KR6, Own.ext P0 X6, Own.ext J0 X6, HNX, hmo⟩
    case measure => simp [intOf]; omega
   have HN := Lib.hid hn
   have hnx : feedS s (f.Entries.take (k + 1)) = stepS m d := by rw [feedS_next hf.out HD.out, hn]; rfl
   have HNX := Lib.hid hnx
   clear hn hnx
   go_wp2_with fail
   refine (applied_k (HRD.out.ext X6) d.Index d.Time d.Client d.Seq d.Op.Kind d.Op.A d.Op.B d.Op.C d.Op.D hmo.out HN.out).mono ?_
   rintro e9 w7 ⟨_, rfl, hx7, u9, rfl, p2, p3, rfl, gp, gj⟩
   obtain ⟨v2, vn2, vc2, rfl⟩ := gp.shape
   obtain ⟨v3, vn3, vc3, rfl⟩ := gj.shape
   have hdd : (⟨d.Index, d.Time, d.Client, d.Seq, ⟨d.Op.Kind, d.Op.A, d.Op.B, d.Op.C, d.Op.D⟩⟩ : DEntry) = d := rfl
   rw [hdd]
   rw [hdd] at gp gj
   clear hdd
   have KX7 := KX6.ext hx7; have KR7 := KR6.ext hx7
   have hz7 := hx7.size
   have E7 := he.trans (X6.trans hx7)
   clear CX6 FX6 LX6 CE6 FE6 LE6 CR6 FR6 LR6
   obtain ⟨CX7, FX7, LX7⟩ := KX7.cfl
   go_wp2_with fail
   go_roundw
   case rel =>
    refine ⟨k + 1, stepS m d, v2, vn2, vc2, v3, vn3, vc3, by omega, by go_num, xT, KX7.box7 _ _ _ _ _ _ _, KR7.far7 oM _ _ _ _ _ _ _, ?_, ?_, HNX, Lib.hid (stepS_ok hmo.out HN.out)⟩
    ·
     exact (gp.mono oM).box7 KX7 dC _ _ _ _ _ _ _
    exact (gj.mono oM).box7 KX7 dC _ _ _ _ _ _ _
   case measure => simp [intOf]; omega
  obtain rfl : k = f.Entries.length := by omega
  have hff := hf.out
  rw [List.take_length] at hff
  have HFF := Lib.hid hff
  clear hff
  have CX := KX.cell; have FX := KX.frozen; have LX := KX.lt; have CR := KR.cell; have FR := KR.frozen; have LR := KR.lt
  go_wp2_with fail
  refine bodyPost_ret (by simp [results, Tryz.results68, go_sem, CR, FR, LR]; try rfl) rfl ?_
  refine ⟨_, rfl, xT, ?_⟩
  rw [HFF.out]
  exact ⟨_, _, rfl, P0.box7 KR dC _ _ _ _ _ _ _, J0.box7 KR dC _ _ _ _ _ _ _⟩
theorem sFeedOk_r {w : World} {v : Value} {f : DFeed} (h : RdFeed w v f) : Calls Tryz.prog 64 #[v] w (RetV w (.bool (feedOk f))) := by
 obtain ⟨t2, rfl, h2⟩ := h
 have HL := Lib.hid h2
 obtain ⟨a2, k2, rfl, hcap, hm, ha⟩ := h2.recs (f := DEntry.ints) (fun _ => rfl) dC
 have HA := Lib.hid ha
 clear ha h2
 unfold maxLen at hm
 obtain ⟨L, hL⟩ : ∃ L, L = f.Entries.length := ⟨_, rfl⟩
 rw [← hL] at HL hcap ⊢
 have HLL := Lib.hid hL
 clear hL
 obtain ⟨W1, hW1⟩ : ∃ W1, W1 = w.alloc (.cells #[.int .i64 f.Base, .int .i64 f.Last, .slice a2 L k2] 68) := ⟨_, rfl⟩
 have E1 : Ext w W1 := by rw [hW1]; exact (Ext.refl _).alloc _
 have KF1 : Blk W1 w.heap.size 68 #[.int .i64 f.Base, .int .i64 f.Last, .slice a2 L k2] := by rw [hW1]; exact Blk.new _ _ _
 have HW1 := Lib.hid hW1
 clear hW1
 have C1 := KF1.cell; have L1 := KF1.lt
 go_enter Tryz.func64, Tryz.ntmps64
 go_wp2_with fail
 rw [← HW1.out]
 go_wp2_with fail
 refine (l1In_c _ f.Last 0 2000).mono ?_
 rintro e9 w1 ⟨rfl, rfl⟩
 cases hb : inb f.Last 0 2000
 ·
  have hno : feedOk f = false := by
   cases hq : feedOk f
   ·
    rfl
   simp only [feedOk, Bool.and_eq_true, decide_eq_true_eq] at hq
   have h1 := inb_true.1 hq.1
   rw [inb_of oM hq.2.1] at hb
   cases hb
  have HE := Lib.hid (show feedOk f = false from by exact hno)
  go_wp2_with fail
  go_ret
  exact ⟨by (rw [HE.out]; try rfl), E1⟩
 have hb2 := (inb_true.1 hb).2
 go_wp2_with fail
 refine (l1In_c _ f.Base 0 f.Last).mono ?_
 rintro e9 w1 ⟨rfl, rfl⟩
 cases hc : inb f.Base 0 f.Last
 ·
  have HE := Lib.hid (show feedOk f = false from by simp [feedOk, hc])
  go_wp2_with fail
  go_ret
  exact ⟨by (rw [HE.out]; try rfl), E1⟩
 have HC9 := Lib.hid hc
 clear hc hb
 by_cases hn : L ≤ 3
 rotate_left
 ·
  have HE := Lib.hid (show feedOk f = false from by rw [HLL.out] at hn; simp [feedOk, hn])
  go_wp2_with fail
  go_ret
  exact ⟨by (rw [HE.out]; try rfl), E1⟩
 go_wp2_with fail
 refine (sEntriesOk_c _ _ f.Entries (HL.out.ext E1)).mono ?_
 rintro e9 w2 ⟨rfl, hx2⟩
 have E2 := E1.trans hx2
 have KF2 := KF1.ext hx2
 clear C1 L1
 cases he : entriesOk f.Entries
 ·
  have C2 := KF2.cell; have L2 := KF2.lt
  have HE := Lib.hid (show feedOk f = false from by simp [feedOk, he])
  go_wp2_with fail
  go_ret
  exact ⟨by (rw [HE.out]; try rfl), E2⟩
 have HEO := Lib.hid he
 clear he
 have HALL : Hid (feedOk f = f.Entries.all (fun e => decide (f.Base < e.Index) && decide (e.Index ≤ f.Last))) := Lib.hid (by rw [HLL.out] at hn; simp [feedOk, HC9.out, hb2, hn, HEO.out])
 have HLM : Hid (f.Entries.length = L) := Lib.hid HLL.out.symm
 rcases Nat.eq_zero_or_pos L with h0 | h0
 ·
  have hnil : f.Entries = [] := List.length_eq_zero_iff.1 (HLM.out.trans h0)
  have HNIL := Lib.hid hnil
  subst h0
  clear hnil
  have C2 := KF2.cell; have L2 := KF2.lt
  have HE := Lib.hid (show feedOk f = true from by rw [HALL.out, HNIL.out]; rfl)
  go_wp2_with fail
  go_quiet (fail)
  go_wp2_with fail
  go_ret
  exact ⟨by (rw [HE.out]; try rfl), xT⟩
 obtain ⟨m, rfl⟩ : ∃ m, L = m + 1 := ⟨L - 1, by omega⟩
 obtain ⟨d, b1, o1, hd, rfl, hb1, c⟩ := HA.out 0 (by have := HLM.out; omega)
 have d0 := E2.cell (c 0 _ dC rfl)
 obtain ⟨e, b2, o2, hde, hbo, _, c'⟩ := HA.out m (by have := HLM.out; omega)
 obtain ⟨rfl, rfl⟩ : b1 = b2 ∧ o1 = o2 := by simpa using hbo
 have e0 := E2.cell (c' 0 _ dC rfl)
 simp only [Nat.add_zero, Nat.zero_mul] at d0 e0
 have HEND := Lib.hid (feed_ends HEO.out hd (by rw [HLM.out]; exact hde))
 have HD := Lib.hid hd; have HE9 := Lib.hid hde
 clear c c' hd hde hbo h0
 have C2 := KF2.cell; have L2 := KF2.lt
 have hm3 : m = 0 ∨ m = 1 ∨ m = 2 := by omega
 rcases hm3 with hm3 | hm3 | hm3
 ·
  subst hm3
  obtain rfl : d = e := by have h1 := HD.out; rw [HE9.out] at h1; exact (Option.some.inj h1).symm
  clear e0
  by_cases q1 : f.Base < d.Index
  ·
   have p1 : decide (f.Base < d.Index) = true := decide_eq_true q1
   by_cases q2 : d.Index ≤ f.Last
   ·
    have p2 : decide (d.Index ≤ f.Last) = true := decide_eq_true q2
    have HE := Lib.hid (show feedOk f = true from by rw [HALL.out, HEND.out, p1, p2]; rfl)
    go_wp2_with fail
    go_quiet (fail)
    go_wp2_with fail
    go_ret
    exact ⟨by (rw [HE.out]; try rfl), xT⟩
   have p2 : decide (d.Index ≤ f.Last) = false := decide_eq_false q2
   have P2 := Lib.hid p2
   have HE := Lib.hid (show feedOk f = false from by rw [HALL.out, HEND.out, p1, p2]; rfl)
   go_wp2_with fail
   go_quiet (fail)
   go_wp2_with fail
   go_ret
   exact ⟨by (rw [HE.out]; first | rfl | exact congrArg (fun z => Ending.returned (Value.bool z)) P2.out), xT⟩
  have p1 : decide (f.Base < d.Index) = false := decide_eq_false q1
  have HE := Lib.hid (show feedOk f = false from by rw [HALL.out, HEND.out, p1]; rfl)
  go_wp2_with fail
  go_quiet (fail)
  go_wp2_with fail
  go_ret
  exact ⟨by (rw [HE.out]; try rfl), xT⟩
 ·
  subst hm3
  simp only [Nat.one_mul] at e0
  by_cases q1 : f.Base < d.Index
  ·
   have p1 : decide (f.Base < d.Index) = true := decide_eq_true q1
   by_cases q2 : e.Index ≤ f.Last
   ·
    have p2 : decide (e.Index ≤ f.Last) = true := decide_eq_true q2
    have HE := Lib.hid (show feedOk f = true from by rw [HALL.out, HEND.out, p1, p2]; rfl)
    go_wp2_with fail
    go_quiet (fail)
    go_wp2_with fail
    go_ret
    exact ⟨by (rw [HE.out]; try rfl), xT⟩
   have p2 : decide (e.Index ≤ f.Last) = false := decide_eq_false q2
   have P2 := Lib.hid p2
   have HE := Lib.hid (show feedOk f = false from by rw [HALL.out, HEND.out, p1, p2]; rfl)
   go_wp2_with fail
   go_quiet (fail)
   go_wp2_with fail
   go_ret
   exact ⟨by (rw [HE.out]; first | rfl | exact congrArg (fun z => Ending.returned (Value.bool z)) P2.out), xT⟩
  have p1 : decide (f.Base < d.Index) = false := decide_eq_false q1
  have HE := Lib.hid (show feedOk f = false from by rw [HALL.out, HEND.out, p1]; rfl)
  go_wp2_with fail
  go_quiet (fail)
  go_wp2_with fail
  go_ret
  exact ⟨by (rw [HE.out]; try rfl), xT⟩
 subst hm3
 simp only [Nat.reduceMul] at e0
 by_cases q1 : f.Base < d.Index
 ·
  have p1 : decide (f.Base < d.Index) = true := decide_eq_true q1
  by_cases q2 : e.Index ≤ f.Last
  ·
   have p2 : decide (e.Index ≤ f.Last) = true := decide_eq_true q2
   have HE := Lib.hid (show feedOk f = true from by rw [HALL.out, HEND.out, p1, p2]; rfl)
   go_wp2_with fail
   go_quiet (fail)
   go_wp2_with fail
   go_ret
   exact ⟨by (rw [HE.out]; try rfl), xT⟩
  have p2 : decide (e.Index ≤ f.Last) = false := decide_eq_false q2
  have P2 := Lib.hid p2
  have HE := Lib.hid (show feedOk f = false from by rw [HALL.out, HEND.out, p1, p2]; rfl)
  go_wp2_with fail
  go_quiet (fail)
  go_wp2_with fail
  go_ret
  exact ⟨by (rw [HE.out]; first | rfl | exact congrArg (fun z => Ending.returned (Value.bool z)) P2.out), xT⟩
 have p1 : decide (f.Base < d.Index) = false := decide_eq_false q1
 have HE := Lib.hid (show feedOk f = false from by rw [HALL.out, HEND.out, p1]; rfl)
 go_wp2_with fail
 go_quiet (fail)
 go_wp2_with fail
 go_ret
 exact ⟨by (rw [HE.out]; try rfl), xT⟩
end Go.Proofs.YtcnioiieiebodaaGreat
