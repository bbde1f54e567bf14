/- The cursor that reads. -/
import Derived.Test.YtemhbbpbmgpcaaaShN
import Derived.Test.YtemhbbpbmgpcaaaUn
set_option linter.unusedSimpArgs false
set_option linter.unusedVariables false
namespace Go.Proofs.Ytemhbbpbmgpcaaa
open Go.RowKit Go.G8

set_option maxHeartbeats 4000000 in
set_option maxRecDepth 100000 in
theorem next_some (w Wa : World) (X : Nat) (a : Option Addr) (c : Nat) (L : List Int) (p : Nat) (hK : Blk w X 80 #[.slice a L.length c, .int .i64 (p : Int)]) (hL : Ints 1 Wa (.slice a L.length c) L) (hE : Ext Wa w) (hX : Wa.heap.size ≤ X) (hl : L.length ≤ 100000000000) (hp : p < L.length) :
    Calls Try.prog 92 #[.pointer (some ⟨X, 0, none⟩)] w (fun e w' => ∃ x, L[p]? = some x ∧ e = .returned (.tuple #[.int .i64 x, .bool true]) ∧ Blk w' X 80 #[.slice a L.length c, .int .i64 ((p + 1 : Nat) : Int)] ∧ Upd w w' [X]) := by
  obtain ⟨_, _, e9, hcap, hm, hat⟩ := hL.one
  injection e9 with e1 _ e3; subst e1; subst e3
  unfold maxLen at hm
  obtain ⟨x, b1, o1, hx, rfl, hb1, cc⟩ := hat p hp
  have d0 := hE.cell cc
  have CK := hK.cell; have FK := hK.frozen
  have hbX : b1 < X := by omega
  have hpI : decide ((L.length : Int) ≤ (p : Int)) = false := by simp; omega
  have HX := Lib.hid hx
  have hXl := hK.lt
  clear hx hat cc hL
  go_enter Try.func92, Try.ntmps92
  go_wp2
  go_quiet (fail)
  go_wp2
  go_quiet (fail)
  go_wp2
  go_ret2
  refine ⟨x, HX.out, rfl, ?_, ?_⟩
  · refine Blk.cast (by repeat' (first | (with_reducible assumption) | (with_reducible apply Blk.drewN) | (with_reducible apply Blk.set_))) (by simp)
  · exact ((((Upd.refl w [X]).ext (Ext.drewN (Ext.refl _) _)).setCell (by simp) _).ext (Ext.drewN (Ext.refl _) _))
set_option maxHeartbeats 4000000 in
set_option maxRecDepth 100000 in
theorem next_none (w Wa : World) (X : Nat) (a : Option Addr) (c : Nat) (L : List Int) (p : Nat) (hK : Blk w X 80 #[.slice a L.length c, .int .i64 (p : Int)]) (hL : Ints 1 Wa (.slice a L.length c) L) (hE : Ext Wa w) (hX : Wa.heap.size ≤ X) (hl : L.length ≤ 100000000000) (hp : L.length ≤ p) (hp2 : p ≤ 200000000000) :
    Calls Try.prog 92 #[.pointer (some ⟨X, 0, none⟩)] w (fun e w' => e = .returned (.tuple #[.int .i64 0, .bool false]) ∧ Upd w w' [X]) := by
  obtain ⟨_, _, e9, hcap, hm, hat⟩ := hL.one
  injection e9 with e1 _ e3; subst e1; subst e3
  unfold maxLen at hm
  have CK := hK.cell; have FK := hK.frozen
  have hpI : decide ((L.length : Int) ≤ (p : Int)) = true := by simp; omega
  have hXl := hK.lt
  clear hat hL
  go_enter Try.func92, Try.ntmps92
  go_wp2
  go_quiet (fail)
  go_wp2
  rename_i nq
  go_ret2
  exact ⟨rfl, (Upd.refl w [X]).ext (Ext.drewN (Ext.refl _) _)⟩
set_option maxHeartbeats 4000000 in
set_option maxRecDepth 100000 in
theorem done_c (w Wa : World) (X : Nat) (a : Option Addr) (c : Nat) (L : List Int) (p : Nat) (hK : Blk w X 80 #[.slice a L.length c, .int .i64 (p : Int)]) (hL : Ints 1 Wa (.slice a L.length c) L) (hE : Ext Wa w) (hX : Wa.heap.size ≤ X) (hl : L.length ≤ 100000000000) (hp2 : p ≤ 200000000000) :
    Calls Try.prog 76 #[.pointer (some ⟨X, 0, none⟩)] w (RetV w (.bool (decide (p = L.length)))) := by
  obtain ⟨_, _, e9, hcap, hm, hat⟩ := hL.one
  injection e9 with e1 _ e3; subst e1; subst e3
  unfold maxLen at hm
  have CK := hK.cell; have FK := hK.frozen
  have hXl := hK.lt
  clear hat hL
  by_cases hp : p = L.length
  · have hpI : ((p : Int) == (L.length : Int)) = true := by simp; omega
    have hd : decide (p = L.length) = true := by simp [hp]
    rw [hd]
    have HP := Lib.hid hp
    clear hp hd
    go_enter Try.func76, Try.ntmps76
    go_wp2
    go_quiet (fail)
    go_wp2
    go_ret
    exact ⟨rfl, Ext.drewN (Ext.refl _) _⟩
  · have hpI : ((p : Int) == (L.length : Int)) = false := by simp; omega
    have hd : decide (p = L.length) = false := by simp [hp]
    rw [hd]
    have HP := Lib.hid hp
    clear hp hd
    go_enter Try.func76, Try.ntmps76
    go_wp2
    go_quiet (fail)
    go_wp2
    go_ret
    exact ⟨rfl, Ext.drewN (Ext.refl _) _⟩
set_option maxHeartbeats 4000000 in
set_option maxRecDepth 100000 in
theorem take_some (w Wa : World) (X : Nat) (a : Option Addr) (c : Nat) (L : List Int) (p : Nat) (hK : Blk w X 80 #[.slice a L.length c, .int .i64 (p : Int)]) (hL : Ints 1 Wa (.slice a L.length c) L) (hE : Ext Wa w) (hX : Wa.heap.size ≤ X) (hl : L.length ≤ 100000000000) (n : Nat) (hn : p + n ≤ L.length) (hn1 : n ≤ 1000000) :
    Calls Try.prog 73 #[.pointer (some ⟨X, 0, none⟩), .int .i64 (n : Int)] w (fun e w' => ∃ ra rn rc, e = .returned (.tuple #[.slice ra rn rc, .bool true]) ∧ OwnI w.heap.size 2 1 w' (.slice ra rn rc) ((L.take (p + n)).drop p) ∧ Blk w' X 80 #[.slice a L.length c, .int .i64 ((p + n : Nat) : Int)] ∧ Upd w w' [X]) := by
  obtain ⟨_, _, e9, hcap, hm, hat⟩ := hL.one
  injection e9 with e1 _ e3; subst e1; subst e3
  unfold maxLen at hm
  have CK := hK.cell; have FK := hK.frozen
  have CK0 : w.cell? ⟨X, 0, none⟩ = some (.slice a L.length c) := hK.cell 0
  have CK1 : w.cell? ⟨X, 1, none⟩ = some (.int .i64 (p : Int)) := hK.cell 1
  obtain ⟨d, hd⟩ : ∃ d : Nat, d = L.length - p := ⟨_, rfl⟩
  have hsub : (L.length : Int) - (p : Int) = ((d : Nat) : Int) := by omega
  have hdn : n ≤ d := by omega
  have hdl : d ≤ 100000000000 := by omega
  obtain ⟨m, hm'⟩ : ∃ m : Nat, m = p + n := ⟨_, rfl⟩
  have hpn : (p : Int) + (n : Int) = ((m : Nat) : Int) := by omega
  have hpl : m ≤ 200000000000 := by omega
  have hpm : p ≤ m := by omega
  rw [← hm'] at hn ⊢
  have hXl := hK.lt
  have hsl := hL.sliced (l := p) (m := m) hpm hn
  simp only [Go.sliced, Nat.mul_one] at hsl
  have hmc : m ≤ c := by omega
  have hi0 : (0 : Int) ≤ (p : Int) := by omega
  have hwm : IntKind.i64.wrap (m : Int) = (m : Int) := by rw [IntKind.wrap_i64]; omega
  have hi1 : (p : Int) ≤ (m : Int) := by omega
  have hi2 : (m : Int) ≤ (c : Int) := by omega
  have HK := Lib.hid hK
  have hll : ((L.take m).drop p).length ≤ 1000000 := by simp; omega
  have HM := Lib.hid hm'
  clear hat hL hd hm'
  by_cases hcp : c = p
  · rw [if_pos hcp, show m - p = 0 by omega, show c - p = 0 by omega] at hsl
    have HCP := Lib.hid hcp
    have hj1 : (m : Int) ≤ (p : Int) := by omega
    have hj2 : m ≤ p := by omega
    have HSL := Lib.hid hsl
    clear hsl
    go_enter Try.func73, Try.ntmps73
    go_wp2
    go_quiet (fail)
    go_wp2_with fail
    any_goals (exfalso; (rename (_ ∨ _) => hq); rw [IntKind.wrap_i64] at hq; omega)
    go_region_held3 (fun w' => w'.cell? ⟨X, 0, none⟩ = some (.slice a L.length c) ∧ w'.cell? ⟨X, 1, none⟩ = some (.int .i64 (p : Int))) (first | (refine ⟨Ext.cell (w := w) ?_ CK0, Ext.cell (w := w) ?_ CK1⟩ <;> (repeat' (first | (with_reducible exact Ext.refl _) | (with_reducible assumption) | (with_reducible refine Ext.drewN ?_ _) | (with_reducible refine Ext.drew ?_) | (with_reducible refine Ext.alloc ?_ _) | (with_reducible refine Ext.setCell ?_ ?_ _) | (with_reducible refine Ext.setRow ?_ ?_ _) | (with_reducible exact Nat.le_refl _) | (with_reducible refine Ext.trans ?_ (by assumption)) | omega)); done)) (first | (go_at_call 61; refine (copyRow_c _ _ _ (HSL.out.ext (Ext.trans hE (by repeat' (first | (with_reducible exact Ext.refl _) | (with_reducible assumption) | (with_reducible refine Ext.drewN ?_ _) | (with_reducible refine Ext.drew ?_) | (with_reducible refine Ext.alloc ?_ _) | (with_reducible refine Ext.setCell ?_ ?_ _) | (with_reducible refine Ext.setRow ?_ ?_ _) | (with_reducible exact Nat.le_refl _) | (with_reducible refine Ext.trans ?_ (by assumption)) | omega)))) hll).mono ?_; rintro e wa ⟨_, rfl, hxa, ga⟩; obtain ⟨ta, tn, tc, rfl⟩ := ga.shape; have hxw : Ext w wa := Ext.trans (by repeat' (first | (with_reducible exact Ext.refl _) | (with_reducible assumption) | (with_reducible refine Ext.drewN ?_ _) | (with_reducible refine Ext.drew ?_) | (with_reducible refine Ext.alloc ?_ _) | (with_reducible refine Ext.setCell ?_ ?_ _) | (with_reducible refine Ext.setRow ?_ ?_ _) | (with_reducible exact Nat.le_refl _) | (with_reducible refine Ext.trans ?_ (by assumption)) | omega)) hxa))
    all_goals
      have KA := HK.out.ext hxw
      have CA := KA.cell; have FA := KA.frozen; have hXa := KA.lt
      clear CK FK CK0 CK1
      go_wp2_with fail
      go_ret2
      have hga : OwnI w.heap.size 2 1 wa (.slice ta tn tc) ((L.take m).drop p) := OwnI.mono ga (by simp)
      refine ⟨ta, tn, tc, rfl, OwnI.keep hga ((Chg.refl _ _).setLow hXl _), ?_, ((Upd.refl w [X]).ext hxw).setCell (by simp) _⟩
      · have := KA.set_ 1 (.int .i64 ((m : Nat) : Int))
        simpa using this
  · rw [if_neg hcp] at hsl
    have HSL := Lib.hid hsl
    clear hsl
    go_enter Try.func73, Try.ntmps73
    go_wp2
    go_quiet (fail)
    go_wp2_with fail
    any_goals (exfalso; (rename (_ ∨ _) => hq); rw [IntKind.wrap_i64] at hq; omega)
    go_region_held3 (fun w' => w'.cell? ⟨X, 0, none⟩ = some (.slice a L.length c) ∧ w'.cell? ⟨X, 1, none⟩ = some (.int .i64 (p : Int))) (first | (refine ⟨Ext.cell (w := w) ?_ CK0, Ext.cell (w := w) ?_ CK1⟩ <;> (repeat' (first | (with_reducible exact Ext.refl _) | (with_reducible assumption) | (with_reducible refine Ext.drewN ?_ _) | (with_reducible refine Ext.drew ?_) | (with_reducible refine Ext.alloc ?_ _) | (with_reducible refine Ext.setCell ?_ ?_ _) | (with_reducible refine Ext.setRow ?_ ?_ _) | (with_reducible exact Nat.le_refl _) | (with_reducible refine Ext.trans ?_ (by assumption)) | omega)); done)) (first | (go_at_call 61; refine (copyRow_c _ _ _ (HSL.out.ext (Ext.trans hE (by repeat' (first | (with_reducible exact Ext.refl _) | (with_reducible assumption) | (with_reducible refine Ext.drewN ?_ _) | (with_reducible refine Ext.drew ?_) | (with_reducible refine Ext.alloc ?_ _) | (with_reducible refine Ext.setCell ?_ ?_ _) | (with_reducible refine Ext.setRow ?_ ?_ _) | (with_reducible exact Nat.le_refl _) | (with_reducible refine Ext.trans ?_ (by assumption)) | omega)))) hll).mono ?_; rintro e wa ⟨_, rfl, hxa, ga⟩; obtain ⟨ta, tn, tc, rfl⟩ := ga.shape; have hxw : Ext w wa := Ext.trans (by repeat' (first | (with_reducible exact Ext.refl _) | (with_reducible assumption) | (with_reducible refine Ext.drewN ?_ _) | (with_reducible refine Ext.drew ?_) | (with_reducible refine Ext.alloc ?_ _) | (with_reducible refine Ext.setCell ?_ ?_ _) | (with_reducible refine Ext.setRow ?_ ?_ _) | (with_reducible exact Nat.le_refl _) | (with_reducible refine Ext.trans ?_ (by assumption)) | omega)) hxa))
    all_goals
      have KA := HK.out.ext hxw
      have CA := KA.cell; have FA := KA.frozen; have hXa := KA.lt
      clear CK FK CK0 CK1
      go_wp2_with fail
      go_ret2
      have hga : OwnI w.heap.size 2 1 wa (.slice ta tn tc) ((L.take m).drop p) := OwnI.mono ga (by simp)
      refine ⟨ta, tn, tc, rfl, OwnI.keep hga ((Chg.refl _ _).setLow hXl _), ?_, ((Upd.refl w [X]).ext hxw).setCell (by simp) _⟩
      · have := KA.set_ 1 (.int .i64 ((m : Nat) : Int))
        simpa using this
set_option maxHeartbeats 4000000 in
set_option maxRecDepth 100000 in
theorem take_none (w Wa : World) (X : Nat) (a : Option Addr) (c : Nat) (L : List Int) (p : Nat) (hK : Blk w X 80 #[.slice a L.length c, .int .i64 (p : Int)]) (hL : Ints 1 Wa (.slice a L.length c) L) (hE : Ext Wa w) (hX : Wa.heap.size ≤ X) (hl : L.length ≤ 100000000000) (n : Nat) (hn : L.length < p + n) (hp : p ≤ L.length) (hn2 : n ≤ 100000000000) :
    Calls Try.prog 73 #[.pointer (some ⟨X, 0, none⟩), .int .i64 (n : Int)] w (fun e w' => e = .returned (.tuple #[.slice none 0 0, .bool false]) ∧ Upd w w' [X]) := by
  obtain ⟨_, _, e9, hcap, hm, hat⟩ := hL.one
  injection e9 with e1 _ e3; subst e1; subst e3
  unfold maxLen at hm
  have CK := hK.cell; have FK := hK.frozen
  obtain ⟨d, hd⟩ : ∃ d : Nat, d = L.length - p := ⟨_, rfl⟩
  have hsub : (L.length : Int) - (p : Int) = ((d : Nat) : Int) := by omega
  have hdn : d < n := by omega
  have hdl : d ≤ 100000000000 := by omega
  have hXl := hK.lt
  clear hat hL hd
  go_enter Try.func73, Try.ntmps73
  go_wp2
  go_quiet (fail)
  go_wp2_with fail
  any_goals (exfalso; (rename (_ ∧ _) => hq); rw [IntKind.wrap_i64] at hq; omega)
  go_ret2
  exact ⟨rfl, (Upd.refl w [X]).ext (Ext.drewN (Ext.refl _) _)⟩

end Go.Proofs.Ytemhbbpbmgpcaaa
