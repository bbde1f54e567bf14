/- Contracts and plain laws: En Fd Fw Hf FTM. -/
import Derived.Test.YtlnkggpemdpemaaGreatYa
import Derived.Test.YtlnkggpemdpemaaGreatYj
import Derived.Test.YtlnkggpemdpemaaGreatYb
import Derived.Test.YtlnkggpemdpemaaGreatXx
import Derived.Defers
import Derived.Recover
import Derived.Deep.DeepCutAuto
import Derived.Test.YtlnkggpemdpemaaGreatXo
import Derived.Test.YtlnkggpemdpemaaGreatYn
set_option linter.unusedSimpArgs false
set_option linter.unusedVariables false
set_option maxHeartbeats 8000000
set_option maxRecDepth 100000
namespace Go.G8
open Go.RowKit
open Go.Proofs.YtlnkggpemdpemaaGreat
def EntAt (l : List DEntry) (i : Nat) : Prop := ∀ d, l[i]? = some d → entryOk d = true ∧ (∀ e, 0 < i → l[i - 1]? = some e → d.Index = e.Index + 1 ∧ e.Time ≤ d.Time)
def EntriesOk (l : List DEntry) : Prop := l.length ≤ 2000 ∧ ∀ i, i < l.length → EntAt l i
open Classical in
noncomputable def entriesOk (l : List DEntry) : Bool := decide (EntriesOk l)
theorem entriesOk_true {l : List DEntry} (h : EntriesOk l) : entriesOk l = true := by simp [entriesOk, h]
theorem entriesOk_false {l : List DEntry} (h : ¬ EntriesOk l) : entriesOk l = false := by simp [entriesOk, h]
theorem entriesOk_iff {l : List DEntry} : entriesOk l = true ↔ EntriesOk l := by simp [entriesOk]
theorem EntAt.next {l : List DEntry} {k : Nat} {d : DEntry} (hd : l[k]? = some d) (h : ∀ i, i < k → EntAt l i) (h1 : entryOk d = true) (h2 : ∀ e, 0 < k → l[k - 1]? = some e → d.Index = e.Index + 1 ∧ e.Time ≤ d.Time) : ∀ i, i < k + 1 → EntAt l i := by
 intro i hi
 by_cases hik : i = k
 ·
  subst hik
  intro d' hd'
  rw [hd] at hd'
  obtain rfl := Option.some.inj hd'
  exact ⟨h1, h2⟩
 exact h i oM
end Go.G8
namespace Go.Proofs.YtlnkggpemdpemaaGreat
open Go.RowKit Go.G8
theorem entriesOk_c (w : World) (s0_0 : Value) (l0_0 : List DEntry) (h0_0 : Ints 9 w s0_0 (flEntry l0_0)) : Calls Tryz.prog 109 #[s0_0] w (RetV w (.bool (entriesOk l0_0))) := by
 obtain ⟨a, cap, rfl, hcap, hm, ha⟩ := h0_0.recs (f := DEntry.ints) (fun _ => rfl) dC
 have HA := Lib.hid ha
 clear ha
 unfold maxLen at hm
 by_cases h10 : l0_0.length ≤ 2000
 rotate_left
 ·
  go_enter Tryz.func109, Tryz.ntmps109
  go_wp2
  go_ret
  exact ⟨congrArg (fun z => Ending.returned (.bool z)) (entriesOk_false (fun hh => h10 hh.1)).symm, Ext.refl _⟩
 go_enter Tryz.func109, Tryz.ntmps109
 go_wp2
 go_loopw [10] (fun i wr => ∃ k : Nat, k ≤ l0_0.length ∧ i = .int .i64 k ∧ Ext w wr ∧ Hid (∀ i, i < k → EntAt l0_0 i)) (fun i _ => l0_0.length - (intOf i).toNat)
 case atStart => exact ⟨0, Nat.zero_le _, rfl, Ext.refl _, Lib.hid (fun i hi => by omega)⟩
 case round =>
  obtain ⟨k, hk, rfl, he, HO⟩ := hrel
  by_cases hlt : k < l0_0.length
  ·
   obtain ⟨d, b1, o1, hd, rfl, hb1, c⟩ := HA.out k hlt
   have d0 := he.cell (c 0 _ dC rfl)
   have d1 := he.cell (c 1 _ dC rfl)
   have d2 := he.cell (c 2 _ dC rfl)
   have d3 := he.cell (c 3 _ dC rfl)
   have d4 := he.cell (c 4 _ dC rfl)
   have d5 := he.cell (c 5 _ dC rfl)
   have d6 := he.cell (c 6 _ dC rfl)
   have d7 := he.cell (c 7 _ dC rfl)
   have d8 := he.cell (c 8 _ dC rfl)
   simp only [Nat.add_zero] at d0
   have HD := Lib.hid hd
   clear c hd
   cases hp : entryOk d
   ·
    go_wp2
    obtain ⟨W, hW⟩ : ∃ W, W = wr.alloc (.cells #[.int .i64 d.Index, .int .i64 d.Time, .int .i64 d.Client, .int .i64 d.Seq, .int .i64 d.Op.Kind, .int .i64 d.Op.A, .int .i64 d.Op.B, .int .i64 d.Op.C, .int .i64 d.Op.D] 54) := ⟨_, rfl⟩
    have x0 : W.cell? ⟨wr.heap.size, 0, none⟩ = some (.int .i64 d.Index) := by rw [hW]; simp
    have x1 : W.cell? ⟨wr.heap.size, 1, none⟩ = some (.int .i64 d.Time) := by rw [hW]; simp
    have x2 : W.cell? ⟨wr.heap.size, 2, none⟩ = some (.int .i64 d.Client) := by rw [hW]; simp
    have x3 : W.cell? ⟨wr.heap.size, 3, none⟩ = some (.int .i64 d.Seq) := by rw [hW]; simp
    have x4 : W.cell? ⟨wr.heap.size, 4, none⟩ = some (.int .i64 d.Op.Kind) := by rw [hW]; simp
    have x5 : W.cell? ⟨wr.heap.size, 5, none⟩ = some (.int .i64 d.Op.A) := by rw [hW]; simp
    have x6 : W.cell? ⟨wr.heap.size, 6, none⟩ = some (.int .i64 d.Op.B) := by rw [hW]; simp
    have x7 : W.cell? ⟨wr.heap.size, 7, none⟩ = some (.int .i64 d.Op.C) := by rw [hW]; simp
    have x8 : W.cell? ⟨wr.heap.size, 8, none⟩ = some (.int .i64 d.Op.D) := by rw [hW]; simp
    have hEW : Ext w W := by rw [hW]; exact he.alloc _
    (try have e0 := (show Ext wr W by rw [hW]; exact (Ext.refl _).alloc _).cell e0); (try have e1 := (show Ext wr W by rw [hW]; exact (Ext.refl _).alloc _).cell e1)
    rw [← hW]
    clear hW
    refine wp_region_ext (by kernel_rfl) (by kernel_rfl) ?_
    repeat (first | go_big_quiet_skip | (go_big_quiet_want; first | (refine quiet_load _ _ _ ?_ rfl rfl (fun wq hq => ?_) ?_; rotate_left; (focus ((try have y0 := hq.cell x0); (try have y1 := hq.cell x1); (try have y2 := hq.cell x2); (try have y3 := hq.cell x3); (try have y4 := hq.cell x4); (try have y5 := hq.cell x5); (try have y6 := hq.cell x6); (try have y7 := hq.cell x7); (try have y8 := hq.cell x8); (try have z0 := hq.cell e0); (try have z1 := hq.cell e1); go_simp; first | done | rfl)); (try simp only [redA, Act.put]); go_big_quiet_on) | (go_big_quiet_op; first | go_big_quiet_on | (refine ⟨_, fun _ _ => rfl, ?_⟩; go_big_quiet_on) | (apply Exists.intro; refine ⟨fun wq hq => ?_, ?_⟩; (focus (exact call_ext hq (by have c := entryOk_e wq d.Index d.Time d.Client d.Seq d.Op.Kind d.Op.A d.Op.B d.Op.C d.Op.D; rw [show entryOk (⟨d.Index, d.Time, d.Client, d.Seq, ⟨d.Op.Kind, d.Op.A, d.Op.B, d.Op.C, d.Op.D⟩⟩ : DEntry) = false from hp] at c; exact c))); go_big_quiet_on))))
    refine wpQuiet_nil ?_
    intro w1 hx1
    go_wp2
    go_ret
    exact ⟨congrArg (fun z => Ending.returned (.bool z)) (entriesOk_false (fun hh => by have := (hh.2 k hlt d HD.out).1; rw [hp] at this; cases this)).symm, hEW.trans hx1⟩
   by_cases hk0 : k = 0
   ·
    subst hk0
    (try simp only [Nat.zero_mul, Nat.add_zero] at d0 d1 d2 d3 d4 d5 d6 d7 d8)
    go_wp2
    obtain ⟨W, hW⟩ : ∃ W, W = wr.alloc (.cells #[.int .i64 d.Index, .int .i64 d.Time, .int .i64 d.Client, .int .i64 d.Seq, .int .i64 d.Op.Kind, .int .i64 d.Op.A, .int .i64 d.Op.B, .int .i64 d.Op.C, .int .i64 d.Op.D] 54) := ⟨_, rfl⟩
    have x0 : W.cell? ⟨wr.heap.size, 0, none⟩ = some (.int .i64 d.Index) := by rw [hW]; simp
    have x1 : W.cell? ⟨wr.heap.size, 1, none⟩ = some (.int .i64 d.Time) := by rw [hW]; simp
    have x2 : W.cell? ⟨wr.heap.size, 2, none⟩ = some (.int .i64 d.Client) := by rw [hW]; simp
    have x3 : W.cell? ⟨wr.heap.size, 3, none⟩ = some (.int .i64 d.Seq) := by rw [hW]; simp
    have x4 : W.cell? ⟨wr.heap.size, 4, none⟩ = some (.int .i64 d.Op.Kind) := by rw [hW]; simp
    have x5 : W.cell? ⟨wr.heap.size, 5, none⟩ = some (.int .i64 d.Op.A) := by rw [hW]; simp
    have x6 : W.cell? ⟨wr.heap.size, 6, none⟩ = some (.int .i64 d.Op.B) := by rw [hW]; simp
    have x7 : W.cell? ⟨wr.heap.size, 7, none⟩ = some (.int .i64 d.Op.C) := by rw [hW]; simp
    have x8 : W.cell? ⟨wr.heap.size, 8, none⟩ = some (.int .i64 d.Op.D) := by rw [hW]; simp
    have hEW : Ext w W := by rw [hW]; exact he.alloc _
    (try have e0 := (show Ext wr W by rw [hW]; exact (Ext.refl _).alloc _).cell e0); (try have e1 := (show Ext wr W by rw [hW]; exact (Ext.refl _).alloc _).cell e1)
    rw [← hW]
    clear hW
    refine wp_region_ext (by kernel_rfl) (by kernel_rfl) ?_
    repeat (first | go_big_quiet_skip | (go_big_quiet_want; first | (refine quiet_load _ _ _ ?_ rfl rfl (fun wq hq => ?_) ?_; rotate_left; (focus ((try have y0 := hq.cell x0); (try have y1 := hq.cell x1); (try have y2 := hq.cell x2); (try have y3 := hq.cell x3); (try have y4 := hq.cell x4); (try have y5 := hq.cell x5); (try have y6 := hq.cell x6); (try have y7 := hq.cell x7); (try have y8 := hq.cell x8); (try have z0 := hq.cell e0); (try have z1 := hq.cell e1); go_simp; first | done | rfl)); (try simp only [redA, Act.put]); go_big_quiet_on) | (go_big_quiet_op; first | go_big_quiet_on | (refine ⟨_, fun _ _ => rfl, ?_⟩; go_big_quiet_on) | (apply Exists.intro; refine ⟨fun wq hq => ?_, ?_⟩; (focus (exact call_ext hq (by have c := entryOk_e wq d.Index d.Time d.Client d.Seq d.Op.Kind d.Op.A d.Op.B d.Op.C d.Op.D; rw [show entryOk (⟨d.Index, d.Time, d.Client, d.Seq, ⟨d.Op.Kind, d.Op.A, d.Op.B, d.Op.C, d.Op.D⟩⟩ : DEntry) = true from hp] at c; exact c))); go_big_quiet_on))))
    refine wpQuiet_nil ?_
    intro w1 hx1
    go_wp2
    go_roundw
    case rel => exact ⟨0 + 1, by omega, by go_num, hEW.trans hx1, Lib.hid (EntAt.next HD.out HO.out hp (fun e' hh hl => by omega))⟩
    case measure => simp [intOf]; omega
   obtain ⟨e, b2, o2, hde, hbo, _, c⟩ := HA.out (k - 1) oM
   obtain ⟨rfl, rfl⟩ : b1 = b2 ∧ o1 = o2 := by simpa using hbo
   have e0 := he.cell (c 0 _ dC rfl)
   have e1 := he.cell (c 1 _ dC rfl)
   simp only [Nat.add_zero] at e0
   have HE := Lib.hid hde
   obtain ⟨b01, b02, _, _⟩ := entryOk_parts (HO.out (k - 1) oM e hde).1
   clear c hde hbo
   have hk1 : decide (0 < k) = true := by simp; omega
   by_cases hi : d.Index = e.Index + 1
   rotate_left
   ·
    have hi' : (d.Index != e.Index + 1) = true := by simp [hi]
    clear hi
    go_wp2
    obtain ⟨W, hW⟩ : ∃ W, W = wr.alloc (.cells #[.int .i64 d.Index, .int .i64 d.Time, .int .i64 d.Client, .int .i64 d.Seq, .int .i64 d.Op.Kind, .int .i64 d.Op.A, .int .i64 d.Op.B, .int .i64 d.Op.C, .int .i64 d.Op.D] 54) := ⟨_, rfl⟩
    have x0 : W.cell? ⟨wr.heap.size, 0, none⟩ = some (.int .i64 d.Index) := by rw [hW]; simp
    have x1 : W.cell? ⟨wr.heap.size, 1, none⟩ = some (.int .i64 d.Time) := by rw [hW]; simp
    have x2 : W.cell? ⟨wr.heap.size, 2, none⟩ = some (.int .i64 d.Client) := by rw [hW]; simp
    have x3 : W.cell? ⟨wr.heap.size, 3, none⟩ = some (.int .i64 d.Seq) := by rw [hW]; simp
    have x4 : W.cell? ⟨wr.heap.size, 4, none⟩ = some (.int .i64 d.Op.Kind) := by rw [hW]; simp
    have x5 : W.cell? ⟨wr.heap.size, 5, none⟩ = some (.int .i64 d.Op.A) := by rw [hW]; simp
    have x6 : W.cell? ⟨wr.heap.size, 6, none⟩ = some (.int .i64 d.Op.B) := by rw [hW]; simp
    have x7 : W.cell? ⟨wr.heap.size, 7, none⟩ = some (.int .i64 d.Op.C) := by rw [hW]; simp
    have x8 : W.cell? ⟨wr.heap.size, 8, none⟩ = some (.int .i64 d.Op.D) := by rw [hW]; simp
    have hEW : Ext w W := by rw [hW]; exact he.alloc _
    (try have e0 := (show Ext wr W by rw [hW]; exact (Ext.refl _).alloc _).cell e0); (try have e1 := (show Ext wr W by rw [hW]; exact (Ext.refl _).alloc _).cell e1)
    rw [← hW]
    clear hW
    refine wp_region_ext (by kernel_rfl) (by kernel_rfl) ?_
    repeat (first | go_big_quiet_skip | (go_big_quiet_want; first | (refine quiet_load _ _ _ ?_ rfl rfl (fun wq hq => ?_) ?_; rotate_left; (focus ((try have y0 := hq.cell x0); (try have y1 := hq.cell x1); (try have y2 := hq.cell x2); (try have y3 := hq.cell x3); (try have y4 := hq.cell x4); (try have y5 := hq.cell x5); (try have y6 := hq.cell x6); (try have y7 := hq.cell x7); (try have y8 := hq.cell x8); (try have z0 := hq.cell e0); (try have z1 := hq.cell e1); go_simp; first | done | rfl)); (try simp only [redA, Act.put]); go_big_quiet_on) | (go_big_quiet_op; first | go_big_quiet_on | (refine ⟨_, fun _ _ => rfl, ?_⟩; go_big_quiet_on) | (apply Exists.intro; refine ⟨fun wq hq => ?_, ?_⟩; (focus (exact call_ext hq (by have c := entryOk_e wq d.Index d.Time d.Client d.Seq d.Op.Kind d.Op.A d.Op.B d.Op.C d.Op.D; rw [show entryOk (⟨d.Index, d.Time, d.Client, d.Seq, ⟨d.Op.Kind, d.Op.A, d.Op.B, d.Op.C, d.Op.D⟩⟩ : DEntry) = true from hp] at c; exact c))); go_big_quiet_on))))
    refine wpQuiet_nil ?_
    intro w1 hx1
    go_wp2
    go_ret
    exact ⟨congrArg (fun z => Ending.returned (.bool z)) (entriesOk_false (fun hh => by have := ((hh.2 k hlt d HD.out).2 e oM HE.out).1; simp [this] at hi')).symm, hEW.trans hx1⟩
   have hi' : (d.Index != e.Index + 1) = false := by simp [hi]
   have HI := Lib.hid hi
   clear hi
   by_cases ht : d.Time < e.Time
   ·
    have ht' : decide (d.Time < e.Time) = true := by simpa using ht
    go_wp2
    obtain ⟨W, hW⟩ : ∃ W, W = wr.alloc (.cells #[.int .i64 d.Index, .int .i64 d.Time, .int .i64 d.Client, .int .i64 d.Seq, .int .i64 d.Op.Kind, .int .i64 d.Op.A, .int .i64 d.Op.B, .int .i64 d.Op.C, .int .i64 d.Op.D] 54) := ⟨_, rfl⟩
    have x0 : W.cell? ⟨wr.heap.size, 0, none⟩ = some (.int .i64 d.Index) := by rw [hW]; simp
    have x1 : W.cell? ⟨wr.heap.size, 1, none⟩ = some (.int .i64 d.Time) := by rw [hW]; simp
    have x2 : W.cell? ⟨wr.heap.size, 2, none⟩ = some (.int .i64 d.Client) := by rw [hW]; simp
    have x3 : W.cell? ⟨wr.heap.size, 3, none⟩ = some (.int .i64 d.Seq) := by rw [hW]; simp
    have x4 : W.cell? ⟨wr.heap.size, 4, none⟩ = some (.int .i64 d.Op.Kind) := by rw [hW]; simp
    have x5 : W.cell? ⟨wr.heap.size, 5, none⟩ = some (.int .i64 d.Op.A) := by rw [hW]; simp
    have x6 : W.cell? ⟨wr.heap.size, 6, none⟩ = some (.int .i64 d.Op.B) := by rw [hW]; simp
    have x7 : W.cell? ⟨wr.heap.size, 7, none⟩ = some (.int .i64 d.Op.C) := by rw [hW]; simp
    have x8 : W.cell? ⟨wr.heap.size, 8, none⟩ = some (.int .i64 d.Op.D) := by rw [hW]; simp
    have hEW : Ext w W := by rw [hW]; exact he.alloc _
    (try have e0 := (show Ext wr W by rw [hW]; exact (Ext.refl _).alloc _).cell e0); (try have e1 := (show Ext wr W by rw [hW]; exact (Ext.refl _).alloc _).cell e1)
    rw [← hW]
    clear hW
    refine wp_region_ext (by kernel_rfl) (by kernel_rfl) ?_
    repeat (first | go_big_quiet_skip | (go_big_quiet_want; first | (refine quiet_load _ _ _ ?_ rfl rfl (fun wq hq => ?_) ?_; rotate_left; (focus ((try have y0 := hq.cell x0); (try have y1 := hq.cell x1); (try have y2 := hq.cell x2); (try have y3 := hq.cell x3); (try have y4 := hq.cell x4); (try have y5 := hq.cell x5); (try have y6 := hq.cell x6); (try have y7 := hq.cell x7); (try have y8 := hq.cell x8); (try have z0 := hq.cell e0); (try have z1 := hq.cell e1); go_simp; first | done | rfl)); (try simp only [redA, Act.put]); go_big_quiet_on) | (go_big_quiet_op; first | go_big_quiet_on | (refine ⟨_, fun _ _ => rfl, ?_⟩; go_big_quiet_on) | (apply Exists.intro; refine ⟨fun wq hq => ?_, ?_⟩; (focus (exact call_ext hq (by have c := entryOk_e wq d.Index d.Time d.Client d.Seq d.Op.Kind d.Op.A d.Op.B d.Op.C d.Op.D; rw [show entryOk (⟨d.Index, d.Time, d.Client, d.Seq, ⟨d.Op.Kind, d.Op.A, d.Op.B, d.Op.C, d.Op.D⟩⟩ : DEntry) = true from hp] at c; exact c))); go_big_quiet_on))))
    refine wpQuiet_nil ?_
    intro w1 hx1
    go_wp2
    go_ret
    exact ⟨congrArg (fun z => Ending.returned (.bool z)) (entriesOk_false (fun hh => by have := ((hh.2 k hlt d HD.out).2 e oM HE.out).2; omega)).symm, hEW.trans hx1⟩
   have ht' : decide (d.Time < e.Time) = false := by simpa using ht
   go_wp2
   obtain ⟨W, hW⟩ : ∃ W, W = wr.alloc (.cells #[.int .i64 d.Index, .int .i64 d.Time, .int .i64 d.Client, .int .i64 d.Seq, .int .i64 d.Op.Kind, .int .i64 d.Op.A, .int .i64 d.Op.B, .int .i64 d.Op.C, .int .i64 d.Op.D] 54) := ⟨_, rfl⟩
   have x0 : W.cell? ⟨wr.heap.size, 0, none⟩ = some (.int .i64 d.Index) := by rw [hW]; simp
   have x1 : W.cell? ⟨wr.heap.size, 1, none⟩ = some (.int .i64 d.Time) := by rw [hW]; simp
   have x2 : W.cell? ⟨wr.heap.size, 2, none⟩ = some (.int .i64 d.Client) := by rw [hW]; simp
   have x3 : W.cell? ⟨wr.heap.size, 3, none⟩ = some (.int .i64 d.Seq) := by rw [hW]; simp
   have x4 : W.cell? ⟨wr.heap.size, 4, none⟩ = some (.int .i64 d.Op.Kind) := by rw [hW]; simp
   have x5 : W.cell? ⟨wr.heap.size, 5, none⟩ = some (.int .i64 d.Op.A) := by rw [hW]; simp
   have x6 : W.cell? ⟨wr.heap.size, 6, none⟩ = some (.int .i64 d.Op.B) := by rw [hW]; simp
   have x7 : W.cell? ⟨wr.heap.size, 7, none⟩ = some (.int .i64 d.Op.C) := by rw [hW]; simp
   have x8 : W.cell? ⟨wr.heap.size, 8, none⟩ = some (.int .i64 d.Op.D) := by rw [hW]; simp
   have hEW : Ext w W := by rw [hW]; exact he.alloc _
   (try have e0 := (show Ext wr W by rw [hW]; exact (Ext.refl _).alloc _).cell e0); (try have e1 := (show Ext wr W by rw [hW]; exact (Ext.refl _).alloc _).cell e1)
   rw [← hW]
   clear hW
   refine wp_region_ext (by kernel_rfl) (by kernel_rfl) ?_
   repeat (first | go_big_quiet_skip | (go_big_quiet_want; first | (refine quiet_load _ _ _ ?_ rfl rfl (fun wq hq => ?_) ?_; rotate_left; (focus ((try have y0 := hq.cell x0); (try have y1 := hq.cell x1); (try have y2 := hq.cell x2); (try have y3 := hq.cell x3); (try have y4 := hq.cell x4); (try have y5 := hq.cell x5); (try have y6 := hq.cell x6); (try have y7 := hq.cell x7); (try have y8 := hq.cell x8); (try have z0 := hq.cell e0); (try have z1 := hq.cell e1); go_simp; first | done | rfl)); (try simp only [redA, Act.put]); go_big_quiet_on) | (go_big_quiet_op; first | go_big_quiet_on | (refine ⟨_, fun _ _ => rfl, ?_⟩; go_big_quiet_on) | (apply Exists.intro; refine ⟨fun wq hq => ?_, ?_⟩; (focus (exact call_ext hq (by have c := entryOk_e wq d.Index d.Time d.Client d.Seq d.Op.Kind d.Op.A d.Op.B d.Op.C d.Op.D; rw [show entryOk (⟨d.Index, d.Time, d.Client, d.Seq, ⟨d.Op.Kind, d.Op.A, d.Op.B, d.Op.C, d.Op.D⟩⟩ : DEntry) = true from hp] at c; exact c))); go_big_quiet_on))))
   refine wpQuiet_nil ?_
   intro w1 hx1
   go_wp2
   go_roundw
   case rel => exact ⟨k + 1, by omega, by go_num, hEW.trans hx1, Lib.hid (EntAt.next HD.out HO.out hp (fun e' hh hl => by rw [HE.out] at hl; obtain rfl := Option.some.inj hl; exact ⟨HI.out, by omega⟩))⟩
   case measure => simp [intOf]; omega
  obtain rfl : k = l0_0.length := by omega
  go_wp2
  go_ret
  exact ⟨congrArg (fun z => Ending.returned (.bool z)) (entriesOk_true ⟨h10, HO.out⟩).symm, he⟩
end Go.Proofs.YtlnkggpemdpemaaGreat
namespace Go.G8
open Go.RowKit
open Go.Proofs.YtlnkggpemdpemaaGreat
noncomputable def feedOk (f : DFeed) : Bool := inb f.Base 0 f.Last && (decide (f.Last ≤ 2000) && (decide (f.Entries.length ≤ 3) && (entriesOk f.Entries && f.Entries.all (fun e => decide (f.Base < e.Index) && decide (e.Index ≤ f.Last)))))
end Go.G8
namespace Go.Proofs.YtlnkggpemdpemaaGreat
open Go.RowKit Go.G8
def RdFeed (w : World) (v : Value) (f : DFeed) : Prop := ∃ t2 : Value, v = .agg #[.int .i64 f.Base, .int .i64 f.Last, t2] ∧ Ints 9 w t2 (flEntry f.Entries)
theorem RdFeed.ext {w w' : World} {v : Value} {f : DFeed} (h : RdFeed w v f) (x : Ext w w') : RdFeed w' v f := let ⟨t, e, h⟩ := h; ⟨t, e, h.ext x⟩
theorem mustBe_yes (w : World) : Calls Tryz.prog 81 #[.bool true] w (fun e w' => e = .returned (.tuple #[]) ∧ w = w') := by
 go_enter Tryz.func81, Tryz.ntmps81
 go_wp2_with fail
 go_end0
 exact ⟨rfl, rfl⟩
theorem mustBe_no (w : World) : Calls Tryz.prog 81 #[.bool false] w (fun e w' => (∃ v, e = .panicked [{ v := .iface 9 v, recovered := false }]) ∧ w = w') := by
 go_enter Tryz.func81, Tryz.ntmps81
 go_wp2_with fail
 exact ⟨rfl, ⟨_, rfl⟩, rfl⟩
theorem feedOk_r {w : World} {v : Value} {f : DFeed} (h : RdFeed w v f) : Calls Tryz.prog 82 #[v] w (RetV w (.bool (feedOk f))) := by
 obtain ⟨t2, rfl, h2⟩ := h
 have HL := Lib.hid h2
 obtain ⟨a2, k2, rfl, hcap, hm, ha⟩ := h2.recs (f := DEntry.ints) (fun _ => rfl) dC
 have HA := Lib.hid ha
 clear ha h2
 unfold maxLen at hm
 obtain ⟨W1, hW1⟩ : ∃ W1, W1 = w.alloc (.cells #[.int .i64 f.Base, .int .i64 f.Last, .slice a2 f.Entries.length k2] 64) := ⟨_, rfl⟩
 have E1 : Ext w W1 := by rw [hW1]; exact (Ext.refl _).alloc _
 have KF1 : Blk W1 w.heap.size 64 #[.int .i64 f.Base, .int .i64 f.Last, .slice a2 f.Entries.length k2] := by rw [hW1]; exact Blk.new _ _ _
 have HW1 := Lib.hid hW1
 clear hW1
 have C1 := KF1.cell; have L1 := KF1.lt
 go_enter Tryz.func82, Tryz.ntmps82
 go_wp2_with fail
 rw [← HW1.out]
 go_wp2_with fail
 refine (between_c _ f.Base 0 f.Last).mono ?_
 rintro e9 w1 ⟨rfl, rfl⟩
 cases hb : inb f.Base 0 f.Last
 ·
  have HE := Lib.hid (show feedOk f = false from by simp [feedOk, hb])
  go_wp2_with fail
  go_ret
  exact ⟨by (rw [HE.out]; try rfl), E1⟩
 have HB9 := Lib.hid hb
 clear hb
 by_cases hl : f.Last ≤ 2000
 rotate_left
 ·
  have HE := Lib.hid (show feedOk f = false from by simp [feedOk, hl])
  go_wp2_with fail
  go_ret
  exact ⟨by (rw [HE.out]; try rfl), E1⟩
 by_cases hn : f.Entries.length ≤ 3
 rotate_left
 ·
  have HE := Lib.hid (show feedOk f = false from by simp [feedOk, hn])
  go_wp2_with fail
  go_ret
  exact ⟨by (rw [HE.out]; try rfl), E1⟩
 go_wp2_with fail
 refine (entriesOk_c _ _ f.Entries (HL.out.ext E1)).mono ?_
 rintro e9 w2 ⟨rfl, hx2⟩
 have E2 := E1.trans hx2
 have KF2 := KF1.ext hx2
 clear C1 L1
 have C2 := KF2.cell; have L2 := KF2.lt
 cases he : entriesOk f.Entries
 ·
  have HE := Lib.hid (show feedOk f = false from by simp [feedOk, he])
  go_wp2_with fail
  go_ret
  exact ⟨by (rw [HE.out]; try rfl), E2⟩
 have HEO := Lib.hid he
 clear he
 have HALL : Hid (feedOk f = f.Entries.all (fun e => decide (f.Base < e.Index) && decide (e.Index ≤ f.Last))) := Lib.hid (by simp [feedOk, HB9.out, hl, hn, HEO.out])
 go_wp2_with fail
 go_loopw [31] (fun i wr => ∃ k : Nat, k ≤ f.Entries.length ∧ i = .int .i64 k ∧ Ext W1 wr ∧ Hid ((f.Entries.take k).all (fun e => decide (f.Base < e.Index) && decide (e.Index ≤ f.Last)) = true)) (fun i _ => f.Entries.length - (intOf i).toNat)
 case atStart => exact ⟨0, Nat.zero_le _, rfl, hx2, Lib.hid (by simp)⟩
 case round =>
  obtain ⟨k, hk, rfl, hr, hall⟩ := hrel
  have Er := E1.trans hr
  have KFr := KF1.ext hr
  clear C2 L2
  by_cases hlt : k < f.Entries.length
  ·
   obtain ⟨d, b1, o1, hd, rfl, hb1, c⟩ := HA.out k hlt
   have d0 := Er.cell (c 0 _ dC rfl)
   have d1 := Er.cell (c 1 _ dC rfl)
   have d2 := Er.cell (c 2 _ dC rfl)
   have d3 := Er.cell (c 3 _ dC rfl)
   have d4 := Er.cell (c 4 _ dC rfl)
   have d5 := Er.cell (c 5 _ dC rfl)
   have d6 := Er.cell (c 6 _ dC rfl)
   have d7 := Er.cell (c 7 _ dC rfl)
   have d8 := Er.cell (c 8 _ dC rfl)
   simp only [Nat.add_zero] at d0
   have HD := Lib.hid hd
   clear c hd
   have Cr := KFr.cell; have Lr := KFr.lt
   by_cases q1 : d.Index ≤ f.Base
   ·
    have HE := Lib.hid (show feedOk f = false from by rw [HALL.out]; exact all_no HD.out (by simp; omega))
    go_wp2_with fail
    go_ret
    exact ⟨by (rw [HE.out]; try rfl), Er.alloc _⟩
   by_cases q2 : f.Last < d.Index
   ·
    have HE := Lib.hid (show feedOk f = false from by rw [HALL.out]; exact all_no HD.out (by simp; omega))
    go_wp2_with fail
    go_ret
    exact ⟨by (rw [HE.out]; try rfl), Er.alloc _⟩
   go_wp2_with fail
   go_roundw
   case rel => exact ⟨k + 1, by omega, by go_num, hr.alloc _, Lib.hid (all_step HD.out hall.out (by simp; omega))⟩
   case measure => simp [intOf]; omega
  obtain rfl : k = f.Entries.length := by omega
  have HE := Lib.hid (show feedOk f = true from by rw [HALL.out]; have := hall.out; rwa [List.take_length] at this)
  go_wp2_with fail
  go_ret
  exact ⟨by (rw [HE.out]; try rfl), Er⟩
end Go.Proofs.YtlnkggpemdpemaaGreat
namespace Go.G8
open Go.RowKit
open Go.Proofs.YtlnkggpemdpemaaGreat
noncomputable def feedS : DState → List DEntry → DState
 | s, [] => s
 | s, e :: t => feedS (if nextIn s e then stepS s e else s) t
theorem feedS_snoc (a : List DEntry) (e : DEntry) : ∀ s : DState, feedS s (a ++ [e]) = (if nextIn (feedS s a) e then stepS (feedS s a) e else feedS s a) := by
 induction a with
 | nil => intro s; rfl
 | cons x a ih => intro s; exact ih _
theorem feedS_next {s m : DState} {l : List DEntry} {k : Nat} {e : DEntry} (h : feedS s (l.take k) = m) (he : l[k]? = some e) : feedS s (l.take (k + 1)) = (if nextIn m e then stepS m e else m) := by
 rw [List.take_add_one, he, Option.toList_some, feedS_snoc, h]
theorem feedS_ok (a : List DEntry) : ∀ s : DState, stateOk s = true → stateOk (feedS s a) = true := by
 induction a with
 | nil => intro s h; exact h
 | cons e a ih =>
  intro s h
  simp only [feedS]
  split
  ·
   rename_i hn; exact ih _ (stepS_ok h hn)
  exact ih _ h
end Go.G8
namespace Go.Proofs.YtlnkggpemdpemaaGreat
open Go.RowKit Go.G8
theorem followed_no {w : World} {B : Nat} {v u : Value} {s : DState} {f : DFeed} (h : IsState B w v s) (hB : B ≤ w.heap.size) (hf : RdFeed w u f) (hs : stateOk s = true) (hno : feedOk f = false) : Calls Tryz.prog 51 #[v, u] w (fun e w' => (∃ x, e = .panicked [{ v := .iface 9 x, recovered := false }]) ∧ Ext w w') := by
 have HS := Lib.hid h.rd
 have HSO := Lib.hid hs
 have HF := Lib.hid hf
 obtain ⟨t4, t5, rfl, h4, h5⟩ := h
 obtain ⟨a4, n4, k4, rfl⟩ := h4.shape
 obtain ⟨a5, n5, k5, rfl⟩ := h5.shape
 obtain ⟨t2, rfl, h2⟩ := hf
 obtain ⟨a2, k2, rfl, hcap, hm, ha⟩ := h2.recs (f := DEntry.ints) (fun _ => rfl) dC
 have HA := Lib.hid ha
 clear ha h2 hs
 unfold maxLen at hm
 obtain ⟨W1, hW1⟩ : ∃ W1, W1 = ((w.alloc (.cells #[.int .i64 s.Index, .int .i64 s.Time, .slice a4 n4 k4, .slice a5 n5 k5, .int .i64 s.Lease.Holder, .int .i64 s.Lease.Epoch, .int .i64 s.Lease.Until] 39)).alloc (.cells #[.int .i64 f.Base, .int .i64 f.Last, .slice a2 f.Entries.length k2] 64)).alloc (.cells #[.int .i64 0, .int .i64 0, .slice none 0 0, .slice none 0 0, .int .i64 0, .int .i64 0, .int .i64 0] 39) := ⟨_, rfl⟩
 have E1 : Ext w W1 := by rw [hW1]; exact (((Ext.refl _).alloc _).alloc _).alloc _
 have KX1 : Blk W1 w.heap.size 39 #[.int .i64 s.Index, .int .i64 s.Time, .slice a4 n4 k4, .slice a5 n5 k5, .int .i64 s.Lease.Holder, .int .i64 s.Lease.Epoch, .int .i64 s.Lease.Until] := by rw [hW1]; exact ((Blk.new _ _ _).alloc _).alloc _
 have KF1 : Blk W1 (w.heap.size + 1) 64 #[.int .i64 f.Base, .int .i64 f.Last, .slice a2 f.Entries.length k2] := by rw [hW1]; exact (Blk.new2 _ _ _ _).alloc _
 have KR1 : Blk W1 (w.heap.size + 1 + 1) 39 #[.int .i64 0, .int .i64 0, .slice none 0 0, .slice none 0 0, .int .i64 0, .int .i64 0, .int .i64 0] := by rw [hW1]; exact Blk.new3 _ _ _ _ _
 have hz1' : w.heap.size + 2 < W1.heap.size := by rw [hW1]; simp
 have HW1 := Lib.hid hW1
 clear hW1
 have CX1 := KX1.cell; have FX1 := KX1.frozen; have LX1 := KX1.lt; have CF1 := KF1.cell; have FF1 := KF1.frozen; have LF1 := KF1.lt; have CR1 := KR1.cell; have FR1 := KR1.frozen; have LR1 := KR1.lt
 go_enter Tryz.func51, Tryz.ntmps51
 go_wp2_with fail
 rw [← HW1.out]
 go_wp2_with fail
 refine (feedOk_r (HF.out.ext E1)).mono ?_
 rintro e9 w2 ⟨rfl, hx2⟩
 have E2 := E1.trans hx2
 have hz2 := hx2.size
 have KX2 := KX1.ext hx2; have KF2 := KF1.ext hx2; have KR2 := KR1.ext hx2
 clear CX1 FX1 LX1 CF1 FF1 LF1 CR1 FR1 LR1
 have CX2 := KX2.cell; have FX2 := KX2.frozen; have LX2 := KX2.lt; have CF2 := KF2.cell; have FF2 := KF2.frozen; have LF2 := KF2.lt; have CR2 := KR2.cell; have FR2 := KR2.frozen; have LR2 := KR2.lt
 rw [hno]
 go_wp2_with fail
 refine (mustBe_no _).mono ?_
 rintro e9 w3 ⟨⟨x, rfl⟩, rfl⟩
 go_wp2_with fail
 exact ⟨rfl, ⟨_, rfl⟩, E2⟩
theorem followed_yes {w : World} {B : Nat} {v u : Value} {s : DState} {f : DFeed} (h : IsState B w v s) (hB : B ≤ w.heap.size) (hf : RdFeed w u f) (hs : stateOk s = true) (hyes : feedOk f = true) : Calls Tryz.prog 51 #[v, u] w (Ret w fun r w' => IsState B w' r (feedS s f.Entries)) := by
 have HS := Lib.hid h.rd
 have HSO := Lib.hid hs
 have HF := Lib.hid hf
 obtain ⟨t4, t5, rfl, h4, h5⟩ := h
 obtain ⟨a4, n4, k4, rfl⟩ := h4.shape
 obtain ⟨a5, n5, k5, rfl⟩ := h5.shape
 obtain ⟨t2, rfl, h2⟩ := hf
 obtain ⟨a2, k2, rfl, hcap, hm, ha⟩ := h2.recs (f := DEntry.ints) (fun _ => rfl) dC
 have HA := Lib.hid ha
 clear ha h2 hs
 unfold maxLen at hm
 obtain ⟨W1, hW1⟩ : ∃ W1, W1 = ((w.alloc (.cells #[.int .i64 s.Index, .int .i64 s.Time, .slice a4 n4 k4, .slice a5 n5 k5, .int .i64 s.Lease.Holder, .int .i64 s.Lease.Epoch, .int .i64 s.Lease.Until] 39)).alloc (.cells #[.int .i64 f.Base, .int .i64 f.Last, .slice a2 f.Entries.length k2] 64)).alloc (.cells #[.int .i64 0, .int .i64 0, .slice none 0 0, .slice none 0 0, .int .i64 0, .int .i64 0, .int .i64 0] 39) := ⟨_, rfl⟩
 have E1 : Ext w W1 := by rw [hW1]; exact (((Ext.refl _).alloc _).alloc _).alloc _
 have KX1 : Blk W1 w.heap.size 39 #[.int .i64 s.Index, .int .i64 s.Time, .slice a4 n4 k4, .slice a5 n5 k5, .int .i64 s.Lease.Holder, .int .i64 s.Lease.Epoch, .int .i64 s.Lease.Until] := by rw [hW1]; exact ((Blk.new _ _ _).alloc _).alloc _
 have KF1 : Blk W1 (w.heap.size + 1) 64 #[.int .i64 f.Base, .int .i64 f.Last, .slice a2 f.Entries.length k2] := by rw [hW1]; exact (Blk.new2 _ _ _ _).alloc _
 have KR1 : Blk W1 (w.heap.size + 1 + 1) 39 #[.int .i64 0, .int .i64 0, .slice none 0 0, .slice none 0 0, .int .i64 0, .int .i64 0, .int .i64 0] := by rw [hW1]; exact Blk.new3 _ _ _ _ _
 have hz1' : w.heap.size + 2 < W1.heap.size := by rw [hW1]; simp
 have HW1 := Lib.hid hW1
 clear hW1
 have CX1 := KX1.cell; have FX1 := KX1.frozen; have LX1 := KX1.lt; have CF1 := KF1.cell; have FF1 := KF1.frozen; have LF1 := KF1.lt; have CR1 := KR1.cell; have FR1 := KR1.frozen; have LR1 := KR1.lt
 go_enter Tryz.func51, Tryz.ntmps51
 go_wp2_with fail
 rw [← HW1.out]
 go_wp2_with fail
 refine (feedOk_r (HF.out.ext E1)).mono ?_
 rintro e9 w2 ⟨rfl, hx2⟩
 have E2 := E1.trans hx2
 have hz2 := hx2.size
 have KX2 := KX1.ext hx2; have KF2 := KF1.ext hx2; have KR2 := KR1.ext hx2
 clear CX1 FX1 LX1 CF1 FF1 LF1 CR1 FR1 LR1
 have CX2 := KX2.cell; have FX2 := KX2.frozen; have LX2 := KX2.lt; have CF2 := KF2.cell; have FF2 := KF2.frozen; have LF2 := KF2.lt; have CR2 := KR2.cell; have FR2 := KR2.frozen; have LR2 := KR2.lt
 rw [hyes]
 go_wp2_with fail
 refine (mustBe_yes _).mono ?_
 rintro e9 w3 ⟨rfl, rfl⟩
 obtain ⟨X, hX⟩ : ∃ X, X = w.heap.size := ⟨_, rfl⟩
 have g4 : OwnI B 113 2 w2 (.slice a4 n4 k4) (flPair s.Pairs) := Own.ext h4 E2
 have g5 : OwnI B 95 5 w2 (.slice a5 n5 k5) (flJob s.Jobs) := Own.ext h5 E2
 have HX := Lib.hid hX
 clear hX hyes
 go_wp2_with fail
 go_loopw [13] (fun ii wr => ∃ (k : Nat) (m : DState) (b2 : Option Addr) (q2 o2 : Nat) (b3 : Option Addr) (q3 o3 : Nat), k ≤ f.Entries.length ∧ ii = .int .i64 k ∧ Ext w wr ∧ Blk wr w.heap.size 39 #[.int .i64 m.Index, .int .i64 m.Time, .slice b2 q2 o2, .slice b3 q3 o3, .int .i64 m.Lease.Holder, .int .i64 m.Lease.Epoch, .int .i64 m.Lease.Until] ∧ Blk wr (w.heap.size + 1 + 1) 39 #[.int .i64 0, .int .i64 0, .slice none 0 0, .slice none 0 0, .int .i64 0, .int .i64 0, .int .i64 0] ∧ OwnI B 113 2 wr (.slice b2 q2 o2) (flPair m.Pairs) ∧ OwnI B 95 5 wr (.slice b3 q3 o3) (flJob m.Jobs) ∧ Hid (feedS s (f.Entries.take k) = m) ∧ Hid (stateOk m = true)) (fun ii _ => f.Entries.length - (intOf ii).toNat)
 case atStart => exact ⟨0, s, a4, n4, k4, a5, n5, k5, Nat.zero_le _, rfl, E2, KX2, KR2, g4, g5, Lib.hid rfl, HSO⟩
 case round =>
  obtain ⟨k, m, b2, q2, o2, b3, q3, o3, hk, rfl, he, KX, KR, P0, J0, hf, hmo⟩ := hrel
  clear CX2 FX2 LX2 CF2 FF2 LF2 CR2 FR2 LR2
  have hzr := he.size
  have hRD : RdState wr (.agg #[.int .i64 m.Index, .int .i64 m.Time, .slice b2 q2 o2, .slice b3 q3 o3, .int .i64 m.Lease.Holder, .int .i64 m.Lease.Epoch, .int .i64 m.Lease.Until]) m := ⟨_, _, rfl, P0.ints, J0.ints⟩
  have HRD := Lib.hid hRD
  clear hRD
  have hxl := KX.lt
  by_cases hlt : k < f.Entries.length
  ·
   obtain ⟨d, b1, o1, hd, rfl, hb1, c⟩ := HA.out k hlt
   have d0 := he.cell (c 0 _ dC rfl)
   have d1 := he.cell (c 1 _ dC rfl)
   have d2 := he.cell (c 2 _ dC rfl)
   have d3 := he.cell (c 3 _ dC rfl)
   have d4 := he.cell (c 4 _ dC rfl)
   have d5 := he.cell (c 5 _ dC rfl)
   have d6 := he.cell (c 6 _ dC rfl)
   have d7 := he.cell (c 7 _ dC rfl)
   have d8 := he.cell (c 8 _ dC rfl)
   simp only [Nat.add_zero] at d0
   have HD := Lib.hid hd
   clear c hd
   obtain ⟨w5, hW5⟩ : ∃ w5, w5 = wr.alloc (.cells #[.int .i64 d.Index, .int .i64 d.Time, .int .i64 d.Client, .int .i64 d.Seq, .int .i64 d.Op.Kind, .int .i64 d.Op.A, .int .i64 d.Op.B, .int .i64 d.Op.C, .int .i64 d.Op.D] 54) := ⟨_, rfl⟩
   have X5 : Ext wr w5 := by rw [hW5]; exact (Ext.refl _).alloc _
   have KE5 : Blk w5 wr.heap.size 54 #[.int .i64 d.Index, .int .i64 d.Time, .int .i64 d.Client, .int .i64 d.Seq, .int .i64 d.Op.Kind, .int .i64 d.Op.A, .int .i64 d.Op.B, .int .i64 d.Op.C, .int .i64 d.Op.D] := by rw [hW5]; exact Blk.new _ _ _
   have KX5 := KX.ext X5; have KR5 := KR.ext X5
   have HW5 := Lib.hid hW5
   have hz5 : w5.heap.size = wr.heap.size + 1 := by rw [hW5]; simp
   have HZ5 := Lib.hid hz5
   have hz5' : wr.heap.size < w5.heap.size := by omega
   clear hW5 hz5
   have CX := KX.cell; have LX := KX.lt
   go_wp2_with fail
   rw [← HW5.out]
   clear CX LX d0 d1 d2 d3 d4 d5 d6 d7 d8
   have CX5 := KX5.cell; have FX5 := KX5.frozen; have LX5 := KX5.lt; have CE5 := KE5.cell; have FE5 := KE5.frozen; have LE5 := KE5.lt; have CR5 := KR5.cell; have FR5 := KR5.frozen; have LR5 := KR5.lt
   have hmi := stateOk_parts hmo.out
   refine (nextIn_k (HRD.out.ext X5) d.Index d.Time d.Client d.Seq d.Op.Kind d.Op.A d.Op.B d.Op.C d.Op.D hmi.1 hmi.2.1).mono ?_
   rintro e9 w6 ⟨rfl, hx6⟩
   clear hmi
   have X6 := X5.trans hx6
   have hz6 := hx6.size
   have KX6 := KX5.ext hx6; have KE6 := KE5.ext hx6; have KR6 := KR5.ext hx6
   clear CX5 FX5 LX5 CE5 FE5 LE5 CR5 FR5 LR5
   have CX6 := KX6.cell; have FX6 := KX6.frozen; have LX6 := KX6.lt; have CE6 := KE6.cell; have FE6 := KE6.frozen; have LE6 := KE6.lt; have CR6 := KR6.cell; have FR6 := KR6.frozen; have LR6 := KR6.lt
   have hdd : (⟨d.Index, d.Time, d.Client, d.Seq, ⟨d.Op.Kind, d.Op.A, d.Op.B, d.Op.C, d.Op.D⟩⟩ : DEntry) = d := rfl
   rw [hdd]
   clear hdd
   cases hn : nextIn m d
   ·
    have hnx : feedS s (f.Entries.take (k + 1)) = m := by rw [feedS_next hf.out HD.out, hn]; rfl
    have HNX := Lib.hid hnx
    clear hnx hn
    go_wp2_with fail
    go_roundw
    case rel => exact ⟨k + 1, m, b2, q2, o2, b3, q3, o3, by omega, by go_num, he.trans X6, KX6, KR6, Own.ext P0 X6, Own.ext J0 X6, HNX, hmo⟩
    case measure => simp [intOf]; omega
   have HN := Lib.hid hn
   have hnx : feedS s (f.Entries.take (k + 1)) = stepS m d := by rw [feedS_next hf.out HD.out, hn]; rfl
   have HNX := Lib.hid hnx
   clear hn hnx
   go_wp2_with fail
   refine (applied_k (HRD.out.ext X6) d.Index d.Time d.Client d.Seq d.Op.Kind d.Op.A d.Op.B d.Op.C d.Op.D hmo.out HN.out).mono ?_
   rintro e9 w7 ⟨_, rfl, hx7, u9, rfl, p2, p3, rfl, gp, gj⟩
   obtain ⟨v2, vn2, vc2, rfl⟩ := gp.shape
   obtain ⟨v3, vn3, vc3, rfl⟩ := gj.shape
   have hdd : (⟨d.Index, d.Time, d.Client, d.Seq, ⟨d.Op.Kind, d.Op.A, d.Op.B, d.Op.C, d.Op.D⟩⟩ : DEntry) = d := rfl
   rw [hdd]
   rw [hdd] at gp gj
   clear hdd
   have KX7 := KX6.ext hx7; have KR7 := KR6.ext hx7
   have hz7 := hx7.size
   have E7 := he.trans (X6.trans hx7)
   clear CX6 FX6 LX6 CE6 FE6 LE6 CR6 FR6 LR6
   obtain ⟨CX7, FX7, LX7⟩ := KX7.cfl
   go_wp2_with fail
   go_roundw
   case rel =>
    refine ⟨k + 1, stepS m d, v2, vn2, vc2, v3, vn3, vc3, by omega, by go_num, xT, KX7.box7 _ _ _ _ _ _ _, KR7.far7 oM _ _ _ _ _ _ _, ?_, ?_, HNX, Lib.hid (stepS_ok hmo.out HN.out)⟩
    ·
     exact (gp.mono oM).box7 KX7 dC _ _ _ _ _ _ _
    exact (gj.mono oM).box7 KX7 dC _ _ _ _ _ _ _
   case measure => simp [intOf]; omega
  obtain rfl : k = f.Entries.length := by omega
  have hff := hf.out
  rw [List.take_length] at hff
  have HFF := Lib.hid hff
  clear hff
  have CX := KX.cell; have FX := KX.frozen; have LX := KX.lt; have CR := KR.cell; have FR := KR.frozen; have LR := KR.lt
  go_wp2_with fail
  refine bodyPost_ret (by simp [results, Tryz.results51, go_sem, CR, FR, LR]; try rfl) rfl ?_
  refine ⟨_, rfl, xT, ?_⟩
  rw [HFF.out]
  exact ⟨_, _, rfl, P0.box7 KR dC _ _ _ _ _ _ _, J0.box7 KR dC _ _ _ _ _ _ _⟩
end Go.Proofs.YtlnkggpemdpemaaGreat
namespace Go.G8
open Go.RowKit
open Go.Proofs.YtlnkggpemdpemaaGreat
noncomputable def hfD (s : DStore) (f : DFeed) : DStore := if storeOk s then (if feedOk f then ⟨s.Disk, feedS s.State f.Entries, s.Num, s.Last, s.Busy⟩ else s) else ⟨⟨[], []⟩, ⟨0, 0, [], [], ⟨0, 0, 0⟩⟩, 0, 0, 0⟩
end Go.G8
namespace Go.Proofs.YtlnkggpemdpemaaGreat
open Go.RowKit Go.G8
theorem OwStore.isDisk {B : Nat} {w : World} {s : DStore} {F : List Nat} {t0 t1 t4 t5 x2 x3 x6 x7 x8 x9 x10 x11 : Value} (h : OwStore B w (.agg #[t0, t1, x2, x3, t4, t5, x6, x7, x8, x9, x10, x11]) s F) : IsDisk B w (.agg #[t0, t1]) s.Disk ∧ OwnI B 113 2 w t4 (flPair s.State.Pairs) ∧ OwnI B 95 5 w t5 (flJob s.State.Jobs) := by
 obtain ⟨u0, u1, u4, u5, s0, s1, e, h0, h1, h4, h5, hd, _⟩ := h
 injection e with e
 injection e with e
 injection e with e0 e
 injection e with e1 e
 injection e with _ e
 injection e with _ e
 injection e with e4 e
 injection e with e5 e
 subst e0; subst e1; subst e4; subst e5
 exact ⟨⟨_, _, s0, s1, rfl, h0, h1, hd⟩, h4, h5⟩
theorem heard1_pan (pv : Value) (ty : TypeId) (w : World) : CallsD Tryz.prog 50 #[] (.panicking ({ v := .iface ty pv, recovered := false } :: [])) w fun e u' w' => e = .returned (.tuple #[]) ∧ u' = .panicking ({ v := .iface ty pv, recovered := true } :: []) ∧ w' = w := by
 refine callsD_of_wpS Tryz.func50 rfl fun c₀ cs hu => ?_
 apply wpS_region
 cases c₀
 simp_all [wpOpsS, go_sem, recoverD, Tryz.ntmps50, bodyPostS, results, Tryz.results50]
theorem heard1_idle (w : World) : CallsD Tryz.prog 50 #[] .returning w fun e u' w' => e = .returned (.tuple #[]) ∧ u' = .returning ∧ w' = w := by
 refine callsD_of_wpS Tryz.func50 rfl fun c₀ cs hu => ?_
 apply wpS_region
 cases c₀
 simp_all [wpOpsS, go_sem, recoverD, Tryz.ntmps50, bodyPostS, results, Tryz.results50]
theorem heardFeed_k {w : World} {v u : Value} {s : DStore} {f : DFeed} (h : RdStore w v s) (hf : RdFeed w u f) : Calls Tryz.prog 20 #[v, u] w (Ret w fun r w' => ∃ F, OwStore w.heap.size w' r (hfD s f) F) := by
 have hmf : ∀ (fn : Fn) (first cap : Array Value) (w : World), (Instr.makeFunc fn first cap).run Tryz.prog w = .ok (.func fn first cap) w := fun _ _ _ _ => rfl
 have HS := Lib.hid h
 have HF := Lib.hid hf
 obtain ⟨a0, n0, k0, a1, n1, k1, a4, n4, k4, a5, n5, k5, rfl⟩ := h.shape
 obtain ⟨t2, rfl, h2⟩ := hf
 obtain ⟨a2, n2, k2, rfl⟩ := h2.shape
 clear h h2
 obtain ⟨W1, hW1⟩ : ∃ W1, W1 = ((w.alloc (.cells #[.slice a0 n0 k0, .slice a1 n1 k1, .int .i64 s.State.Index, .int .i64 s.State.Time, .slice a4 n4 k4, .slice a5 n5 k5, .int .i64 s.State.Lease.Holder, .int .i64 s.State.Lease.Epoch, .int .i64 s.State.Lease.Until, .int .i64 s.Num, .int .i64 s.Last, .int .i64 s.Busy] 41)).alloc (.cells #[.int .i64 f.Base, .int .i64 f.Last, .slice a2 n2 k2] 64)).alloc (.cells #[.slice none 0 0, .slice none 0 0, .int .i64 0, .int .i64 0, .slice none 0 0, .slice none 0 0, .int .i64 0, .int .i64 0, .int .i64 0, .int .i64 0, .int .i64 0, .int .i64 0] 41) := ⟨_, rfl⟩
 have E1 : Ext w W1 := by rw [hW1]; exact (((Ext.refl _).alloc _).alloc _).alloc _
 have KS1 : Blk W1 w.heap.size 41 #[.slice a0 n0 k0, .slice a1 n1 k1, .int .i64 s.State.Index, .int .i64 s.State.Time, .slice a4 n4 k4, .slice a5 n5 k5, .int .i64 s.State.Lease.Holder, .int .i64 s.State.Lease.Epoch, .int .i64 s.State.Lease.Until, .int .i64 s.Num, .int .i64 s.Last, .int .i64 s.Busy] := by rw [hW1]; exact ((Blk.new _ _ _).alloc _).alloc _
 have KF1 : Blk W1 (w.heap.size + 1) 64 #[.int .i64 f.Base, .int .i64 f.Last, .slice a2 n2 k2] := by rw [hW1]; exact (Blk.new2 _ _ _ _).alloc _
 have KR1 : Blk W1 (w.heap.size + 1 + 1) 41 #[.slice none 0 0, .slice none 0 0, .int .i64 0, .int .i64 0, .slice none 0 0, .slice none 0 0, .int .i64 0, .int .i64 0, .int .i64 0, .int .i64 0, .int .i64 0, .int .i64 0] := by rw [hW1]; exact Blk.new3 _ _ _ _ _
 have hz1 : w.heap.size + 2 < W1.heap.size := by rw [hW1]; simp
 have HW1 := Lib.hid hW1
 clear hW1
 have CS1 := KS1.cell; have FS1 := KS1.frozen; have LS1 := KS1.lt; have CF1 := KF1.cell; have FF1 := KF1.frozen; have LF1 := KF1.lt; have CR1 := KR1.cell; have FR1 := KR1.frozen; have LR1 := KR1.lt
 go_enter_defers Tryz.func20, Tryz.ntmps20
 go_wp2_with fail
 rw [← HW1.out]
 go_wp2_with fail
 refine (storeOk_r (HS.out.ext E1)).mono ?_
 rintro e9 w2 ⟨rfl, hx2⟩
 have E2 := E1.trans hx2
 have hz2 := hx2.size
 have KS2 := KS1.ext hx2; have KF2 := KF1.ext hx2; have KR2 := KR1.ext hx2
 clear CS1 FS1 LS1 CF1 FF1 LF1 CR1 FR1 LR1
 have CS2 := KS2.cell; have FS2 := KS2.frozen; have LS2 := KS2.lt; have CF2 := KF2.cell; have FF2 := KF2.frozen; have LF2 := KF2.lt; have CR2 := KR2.cell; have FR2 := KR2.frozen; have LR2 := KR2.lt
 cases hso : storeOk s
 ·
  have HM := Lib.hid (show hfD s f = ⟨⟨[], []⟩, ⟨0, 0, [], [], ⟨0, 0, 0⟩⟩, 0, 0, 0⟩ from by simp [hfD, hso])
  go_wp2_with fail
  refine ⟨_, by simp [results, Tryz.results20, go_sem, CR2, FR2, LR2]; try rfl, ?_⟩
  refine ⟨_, rfl, xT, ?_⟩
  rw [HM.out]
  exact OwStore.of (IsDisk.nil _ _) (OwnI.nil _ _ _ _) (OwnI.nil _ _ _ _)
 have HSO := Lib.hid hso
 clear hso
 go_wp2_with fail
 refine (copyStore_k (HS.out.ext E2) (diskOk_small (storeOk_disk HSO.out)) (stateOk_small (storeOk_state HSO.out))).mono ?_
 rintro e9 w3 ⟨_, rfl, hx3, F3, g3⟩
 obtain ⟨b0, m0, j0, b1, m1, j1, b4, m4, j4, b5, m5, j5, rfl⟩ := g3.rd.shape
 obtain ⟨gd3, gp3, gj3⟩ := g3.isDisk
 have hz3 := hx3.size
 have E3 := E2.trans hx3
 have KS3 := KS2.ext hx3; have KF3 := KF2.ext hx3; have KR3 := KR2.ext hx3
 clear CS2 FS2 LS2 CF2 FF2 LF2 CR2 FR2 LR2
 have CF3 := KF3.cell; have FF3 := KF3.frozen; have LF3 := KF3.lt; have CR3 := KR3.cell; have FR3 := KR3.frozen; have LR3 := KR3.lt
 go_wp2_with fail
 have hR : w.heap.size + 1 + 1 < w2.heap.size := by omega
 have hRw : w.heap.size ≤ w.heap.size + 1 + 1 := by omega
 obtain ⟨w4, hW4⟩ : ∃ w4, w4 = ((((((((((((w3.setCell ⟨w.heap.size + 1 + 1, 0, none⟩ (.slice b0 m0 j0)).setCell ⟨w.heap.size + 1 + 1, 1, none⟩ (.slice b1 m1 j1)).setCell ⟨w.heap.size + 1 + 1, 2, none⟩ (.int .i64 s.State.Index)).setCell ⟨w.heap.size + 1 + 1, 3, none⟩ (.int .i64 s.State.Time)).setCell ⟨w.heap.size + 1 + 1, 4, none⟩ (.slice b4 m4 j4)).setCell ⟨w.heap.size + 1 + 1, 5, none⟩ (.slice b5 m5 j5)).setCell ⟨w.heap.size + 1 + 1, 6, none⟩ (.int .i64 s.State.Lease.Holder)).setCell ⟨w.heap.size + 1 + 1, 7, none⟩ (.int .i64 s.State.Lease.Epoch)).setCell ⟨w.heap.size + 1 + 1, 8, none⟩ (.int .i64 s.State.Lease.Until)).setCell ⟨w.heap.size + 1 + 1, 9, none⟩ (.int .i64 s.Num)).setCell ⟨w.heap.size + 1 + 1, 10, none⟩ (.int .i64 s.Last)).setCell ⟨w.heap.size + 1 + 1, 11, none⟩ (.int .i64 s.Busy)) := ⟨_, rfl⟩
 rw [← hW4]
 have E4 : Ext w w4 := by rw [hW4]; exact ((((((((((((E3.setCell hRw _).setCell hRw _).setCell hRw _).setCell hRw _).setCell hRw _).setCell hRw _).setCell hRw _).setCell hRw _).setCell hRw _).setCell hRw _).setCell hRw _).setCell hRw _)
 have CH4 : Chg w2.heap.size w3 w4 := by rw [hW4]; exact (((((((((((((Chg.refl _ _).setLow hR _).setLow hR _).setLow hR _).setLow hR _).setLow hR _).setLow hR _).setLow hR _).setLow hR _).setLow hR _).setLow hR _).setLow hR _).setLow hR _)
 have KR4 : Blk w4 (w.heap.size + 1 + 1) 41 #[.slice b0 m0 j0, .slice b1 m1 j1, .int .i64 s.State.Index, .int .i64 s.State.Time, .slice b4 m4 j4, .slice b5 m5 j5, .int .i64 s.State.Lease.Holder, .int .i64 s.State.Lease.Epoch, .int .i64 s.State.Lease.Until, .int .i64 s.Num, .int .i64 s.Last, .int .i64 s.Busy] := by rw [hW4]; have := ((((((((((((KR3.set_ 0 (.slice b0 m0 j0)).set_ 1 (.slice b1 m1 j1)).set_ 2 (.int .i64 s.State.Index)).set_ 3 (.int .i64 s.State.Time)).set_ 4 (.slice b4 m4 j4)).set_ 5 (.slice b5 m5 j5)).set_ 6 (.int .i64 s.State.Lease.Holder)).set_ 7 (.int .i64 s.State.Lease.Epoch)).set_ 8 (.int .i64 s.State.Lease.Until)).set_ 9 (.int .i64 s.Num)).set_ 10 (.int .i64 s.Last)).set_ 11 (.int .i64 s.Busy)); simpa using this
 have hz4 := CH4.size
 clear hW4 CF3 FF3 LF3 CR3 FR3 LR3
 have gs4 : IsState w2.heap.size w4 (.agg #[.int .i64 s.State.Index, .int .i64 s.State.Time, .slice b4 m4 j4, .slice b5 m5 j5, .int .i64 s.State.Lease.Holder, .int .i64 s.State.Lease.Epoch, .int .i64 s.State.Lease.Until]) s.State := ⟨_, _, rfl, gp3.keep CH4, gj3.keep CH4⟩
 cases hfo : feedOk f
 ·
  have HM := Lib.hid (show hfD s f = s from by simp [hfD, HSO.out, hfo])
  have hmm : s = ⟨s.Disk, ⟨s.State.Index, s.State.Time, s.State.Pairs, s.State.Jobs, ⟨s.State.Lease.Holder, s.State.Lease.Epoch, s.State.Lease.Until⟩⟩, s.Num, s.Last, s.Busy⟩ := rfl
  refine (followed_no gs4 oM (HF.out.ext E4) (storeOk_state HSO.out) hfo).mono ?_
  rintro e9 w5 ⟨⟨x, rfl⟩, hx5⟩
  have KR5 := KR4.ext hx5
  have E5 := E4.trans hx5
  have CH5 := CH4.ext hx5
  obtain ⟨CR5, FR5, LR5⟩ := KR5.cfl
  clear hfo hmm
  go_wp2_with fail
  refine leaves_cons (f := 50) (args := #[]) (by simp) (by simp [go_sem]) ?_
  refine (heard1_pan x 9 _).mono ?_
  rintro e8 u8 w8 ⟨rfl, rfl, rfl⟩
  refine ⟨_, by simp [results, Tryz.results20, go_sem, CR5, FR5, LR5]; try rfl, ?_⟩
  refine ⟨_, rfl, xT, ?_⟩
  rw [HM.out]
  exact ⟨F3, (OwStore.keep g3 CH5).mono oM⟩
 have HM := Lib.hid (show hfD s f = ⟨s.Disk, feedS s.State f.Entries, s.Num, s.Last, s.Busy⟩ from by simp [hfD, HSO.out, hfo])
 refine (followed_yes gs4 oM (HF.out.ext E4) (storeOk_state HSO.out) hfo).mono ?_
 rintro e9 w5 ⟨_, rfl, hx5, p2, p3, rfl, gp, gj⟩
 obtain ⟨v2, vn2, vc2, rfl⟩ := gp.shape
 obtain ⟨v3, vn3, vc3, rfl⟩ := gj.shape
 have KR5 := KR4.ext hx5
 have E5 := E4.trans hx5
 have CH5 := CH4.ext hx5
 have hz5 := hx5.size
 obtain ⟨CR5, FR5, LR5⟩ := KR5.cfl
 clear hfo
 go_upto_region 6 with (fail)
 obtain ⟨w6, hW6⟩ : ∃ w6, w6 = (((((((w5.setCell ⟨w.heap.size + 1 + 1, 2, none⟩ (.int .i64 (feedS s.State f.Entries).Index)).setCell ⟨w.heap.size + 1 + 1, 3, none⟩ (.int .i64 (feedS s.State f.Entries).Time)).setCell ⟨w.heap.size + 1 + 1, 4, none⟩ (.slice v2 vn2 vc2)).setCell ⟨w.heap.size + 1 + 1, 5, none⟩ (.slice v3 vn3 vc3)).setCell ⟨w.heap.size + 1 + 1, 6, none⟩ (.int .i64 (feedS s.State f.Entries).Lease.Holder)).setCell ⟨w.heap.size + 1 + 1, 7, none⟩ (.int .i64 (feedS s.State f.Entries).Lease.Epoch)).setCell ⟨w.heap.size + 1 + 1, 8, none⟩ (.int .i64 (feedS s.State f.Entries).Lease.Until)) := ⟨_, rfl⟩
 rw [← hW6]
 have hR5 : w.heap.size + 1 + 1 < w2.heap.size := hR
 have E6 : Ext w w6 := by rw [hW6]; exact (((((((E5.setCell hRw _).setCell hRw _).setCell hRw _).setCell hRw _).setCell hRw _).setCell hRw _).setCell hRw _)
 have CH6 : Chg w2.heap.size w3 w6 := by rw [hW6]; exact (((((((CH5.setLow hR _).setLow hR _).setLow hR _).setLow hR _).setLow hR _).setLow hR _).setLow hR _)
 have KR6 : Blk w6 (w.heap.size + 1 + 1) 41 #[.slice b0 m0 j0, .slice b1 m1 j1, .int .i64 (feedS s.State f.Entries).Index, .int .i64 (feedS s.State f.Entries).Time, .slice v2 vn2 vc2, .slice v3 vn3 vc3, .int .i64 (feedS s.State f.Entries).Lease.Holder, .int .i64 (feedS s.State f.Entries).Lease.Epoch, .int .i64 (feedS s.State f.Entries).Lease.Until, .int .i64 s.Num, .int .i64 s.Last, .int .i64 s.Busy] := by rw [hW6]; have := (((((((KR5.set_ 2 (.int .i64 (feedS s.State f.Entries).Index)).set_ 3 (.int .i64 (feedS s.State f.Entries).Time)).set_ 4 (.slice v2 vn2 vc2)).set_ 5 (.slice v3 vn3 vc3)).set_ 6 (.int .i64 (feedS s.State f.Entries).Lease.Holder)).set_ 7 (.int .i64 (feedS s.State f.Entries).Lease.Epoch)).set_ 8 (.int .i64 (feedS s.State f.Entries).Lease.Until)); simpa using this
 have gp6 : OwnI w2.heap.size 113 2 w6 (.slice v2 vn2 vc2) (flPair (feedS s.State f.Entries).Pairs) := by rw [hW6]; exact OwnI.keep gp ((((((((Chg.refl _ _).setLow hR _).setLow hR _).setLow hR _).setLow hR _).setLow hR _).setLow hR _).setLow hR _)
 have gj6 : OwnI w2.heap.size 95 5 w6 (.slice v3 vn3 vc3) (flJob (feedS s.State f.Entries).Jobs) := by rw [hW6]; exact OwnI.keep gj ((((((((Chg.refl _ _).setLow hR _).setLow hR _).setLow hR _).setLow hR _).setLow hR _).setLow hR _).setLow hR _)
 have gd6 := gd3.keep CH6
 clear hW6 CR5 FR5 LR5
 obtain ⟨CR6, FR6, LR6⟩ := KR6.cfl
 go_wp2_with fail
 refine leaves_cons (f := 50) (args := #[]) (by simp) (by simp [go_sem]) ?_
 refine (heard1_idle _).mono ?_
 rintro e8 u8 w8 ⟨rfl, rfl, rfl⟩
 refine ⟨_, by simp [results, Tryz.results20, go_sem, CR6, FR6, LR6]; try rfl, ?_⟩
 refine ⟨_, rfl, xT, ?_⟩
 rw [HM.out]
 exact OwStore.of ((gd6.keep chgT).mono oM) ((gp6.keep chgT).mono oM) ((gj6.keep chgT).mono oM)
end Go.Proofs.YtlnkggpemdpemaaGreat
namespace Go.G8
open Go.RowKit
open Go.Proofs.YtlnkggpemdpemaaGreat
theorem stepS_ix {s : DState} {e : DEntry} : (stepS s e).Index = e.Index := by
 unfold stepS
 repeat' split
 all_goals rfl
theorem feedS_low : ∀ (l : List DEntry) (s : DState), s.Index ≤ (feedS s l).Index
 | [], s => Int.le_refl _
 | e :: t, s => by
  simp only [feedS]
  refine Int.le_trans ?_ (feedS_low t _)
  split
  ·
   rename_i h
   have h1 := (nextIn_parts h).2.1
   have h2 := stepS_ix (s := s) (e := e)
   omega
  exact Int.le_refl _
theorem feedS_same : ∀ (l : List DEntry) (s : DState), feedS s l = s ∨ ∃ e, e ∈ l ∧ e.Index ≤ (feedS s l).Index
 | [], s => .inl rfl
 | e :: t, s => by
  simp only [feedS]
  split
  ·
   refine .inr ⟨e, List.mem_cons_self .., ?_⟩
   have h1 := feedS_low t (stepS s e)
   have h2 := stepS_ix (s := s) (e := e)
   omega
  rcases feedS_same t s with h | ⟨e', h1, h2⟩
  ·
   exact .inl h
  exact .inr ⟨e', List.mem_cons_of_mem _ h1, h2⟩
theorem nextIn_not {m : DState} {e : DEntry} (h : e.Index ≤ m.Index) : nextIn m e = false := by
 cases hn : nextIn m e
 ·
  rfl
 have := (nextIn_parts hn).2.1
 omega
theorem feedS_done : ∀ (l : List DEntry) (s : DState), Srt DEntry.Index l → ∀ e, e ∈ l → nextIn (feedS s l) e = false
 | [], s, _, e, h => by cases h
 | a :: t, s, hs, e, h => by
  have hs2 := List.pairwise_cons.1 hs
  simp only [feedS]
  rcases List.mem_cons.1 h with rfl | h
  ·
   split
   ·
    have h1 := feedS_low t (stepS s e)
    have h2 := stepS_ix (s := s) (e := e)
    exact nextIn_not oM
   rename_i hn
   rcases feedS_same t s with h | ⟨e', h1, h2⟩
   ·
    rw [h]; simpa using hn
   have := hs2.1 e' h1
   exact nextIn_not oM
  exact feedS_done t _ hs2.2 e h
theorem feedS_stuck : ∀ (l : List DEntry) (s : DState), (∀ e, e ∈ l → nextIn s e = false) → feedS s l = s
 | [], _, _ => rfl
 | e :: t, s, h => by
  simp only [feedS]
  rw [h e (List.mem_cons_self ..)]
  exact feedS_stuck t s fun x hx => h x (List.mem_cons_of_mem _ hx)
theorem entries_srt {l : List DEntry} (h : entriesOk l = true) : Srt DEntry.Index l := srt_of_adj fun i d e hd he => by
 have h1 := (entriesOk_iff.1 h).2 (i + 1) (List.getElem?_eq_some_iff.1 hd).1 d hd
 have h2 := (h1.2 e oM he).1
 show e.Index < d.Index
 omega
theorem feedS_twice {l : List DEntry} (h : entriesOk l = true) (s : DState) : feedS (feedS s l) l = feedS s l := feedS_stuck l _ (feedS_done l s (entries_srt h))
theorem hf_yes {s : DStore} {f : DFeed} (h : storeOk s = true) : storeOk (hfD s f) = true ∧ (hfD s f).Last = s.Last ∧ (hfD s f).Busy = s.Busy ∧ s.State.Index ≤ (hfD s f).State.Index ∧ (hfD (hfD s f) f).State = (hfD s f).State ∧ stateOk (hfD s f).State = true := by
 have hst := storeOk_state h
 have e1 : hfD s f = if feedOk f then ⟨s.Disk, feedS s.State f.Entries, s.Num, s.Last, s.Busy⟩ else s := by
  unfold hfD; rw [h]; rfl
 cases hf : feedOk f with
 | false =>
  have e2 : hfD s f = s := by rw [e1, hf]; rfl
  rw [e2, e2]
  exact ⟨h, rfl, rfl, Int.le_refl _, rfl, hst⟩
 | true =>
  have e2 : hfD s f = ⟨s.Disk, feedS s.State f.Entries, s.Num, s.Last, s.Busy⟩ := by rw [e1, hf]; rfl
  have hl := feedS_low f.Entries s.State
  have hok := feedS_ok f.Entries s.State hst
  have he : entriesOk f.Entries = true := by
   simp only [feedOk, Bool.and_eq_true] at hf
   exact hf.2.2.2.1
  have h3 : storeOk ⟨s.Disk, feedS s.State f.Entries, s.Num, s.Last, s.Busy⟩ = true := by
   simp only [storeOk, Bool.and_eq_true, Bool.or_eq_true, decide_eq_true_eq] at h ⊢
   obtain ⟨g1, g2, g3, g4, g5, g6⟩ := h
   have g4 := inb_true.1 g4
   refine ⟨g1, hok, g3, inb_of g4.1 oM, g5, ?_⟩
   rcases g6 with g6 | ⟨g6, g7, g8⟩
   ·
    exact .inl g6
   exact .inr ⟨g6, g7, by omega⟩
  have e3 : hfD ⟨s.Disk, feedS s.State f.Entries, s.Num, s.Last, s.Busy⟩ f = ⟨s.Disk, feedS (feedS s.State f.Entries) f.Entries, s.Num, s.Last, s.Busy⟩ := by
   unfold hfD; rw [h3, hf]; rfl
  rw [e2, e3]
  exact ⟨h3, rfl, rfl, hl, feedS_twice he _, hok⟩
end Go.G8
