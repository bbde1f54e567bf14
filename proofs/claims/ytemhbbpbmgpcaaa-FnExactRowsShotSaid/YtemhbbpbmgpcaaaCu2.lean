/- Pairs and jobs off the cursor. -/
import Derived.Test.YtemhbbpbmgpcaaaCu
import Derived.Test.YtemhbbpbmgpcaaaNum2
import Derived.Test.YtemhbbpbmgpcaaaHelpF
set_option linter.unusedSimpArgs false
set_option linter.unusedVariables false
namespace Go.Proofs.Ytemhbbpbmgpcaaa
open Go.RowKit Go.G8

end Go.Proofs.Ytemhbbpbmgpcaaa
namespace Go.G8
open Go.RowKit
def slLen : Value → Nat
  | .slice _ n _ => n
  | _ => 0
end Go.G8
namespace Go.Proofs.Ytemhbbpbmgpcaaa
open Go.RowKit Go.G8
set_option maxHeartbeats 8000000 in
set_option maxRecDepth 100000 in
theorem takePairs_c (w Wa : World) (X : Nat) (a : Option Addr) (c : Nat) (L : List Int) (p : Nat) (hK : Blk w X 80 #[.slice a L.length c, .int .i64 (p : Int)]) (hL : Ints 1 Wa (.slice a L.length c) L) (hE : Ext Wa w) (hX : Wa.heap.size ≤ X) (hl : L.length ≤ 100000000000) (hp0 : p ≤ L.length) :
    Calls Try.prog 74 #[.pointer (some ⟨X, 0, none⟩)] w (fun e w' => Upd w w' [X] ∧ ((∃ l ra rn rc, okP L p l ∧ e = .returned (.tuple #[.slice ra rn rc, .bool true]) ∧ OwnI w.heap.size 106 2 w' (.slice ra rn rc) (flPair l) ∧ Blk w' X 80 #[.slice a L.length c, .int .i64 ((p + 1 + 2 * l.length : Nat) : Int)]) ∨ ((∀ l, ¬ okP L p l) ∧ ∃ ra rn rc, e = .returned (.tuple #[.slice ra rn rc, .bool false])))) := by
  have hXl := hK.lt
  by_cases hp : p < L.length
  rotate_left
  · have HP := Lib.hid hp
    clear hp
    go_enter Try.func74, Try.ntmps74
    go_wp2_with fail
    refine (next_none _ Wa X a c L p hK hL hE hX hl (by have := HP.out; omega) (by omega)).mono ?_
    rintro e w1 ⟨rfl, hy1⟩
    go_wp2_with fail
    go_ret2
    exact ⟨hy1, .inr ⟨fun l h => by have := okP_len h; have := HP.out; omega, _, _, _, rfl⟩⟩
  go_enter Try.func74, Try.ntmps74
  go_wp2_with fail
  refine (next_some _ Wa X a c L p hK hL hE hX hl hp).mono ?_
  rintro e w1 ⟨x, hx, rfl, K1, hy1⟩
  have hz1 := hy1.size
  have HX := Lib.hid hx
  clear hx
  go_wp2_with fail
  refine (between_c _ x 0 10).mono ?_
  rintro e w1' ⟨rfl, rfl⟩
  cases hb : inb x 0 10
  · go_wp2_with fail
    go_ret2
    exact ⟨hy1, .inr ⟨fun l h => by have h1 := h.1; rw [HX.out] at h1; have h2 := Option.some.inj h1; have h3 := h.2.1; rw [h2] at hb; rw [inb_of (by omega) (by omega)] at hb; exact Bool.noConfusion hb, _, _, _, rfl⟩⟩
  obtain ⟨hx0, hx1⟩ := inb_true.1 hb
  obtain ⟨n, rfl⟩ := Int.eq_ofNat_of_zero_le hx0
  clear hb
  have hE1 : Ext Wa w1 := hE.upd_below hy1 (fun q hq => by simp at hq; omega)
  obtain ⟨m, hm⟩ : ∃ m : Nat, m = 2 * n := ⟨_, rfl⟩
  have hmI : 2 * (n : Int) = (m : Int) := by omega
  have hml : m ≤ 1000 := by omega
  have HM := Lib.hid hm
  clear hm hx0
  obtain ⟨i0, hi, hz0, hzz1, hzz2⟩ := info_parts info_Pair
  go_wp2_with fail
  by_cases hq : p + 1 + m ≤ L.length
  rotate_left
  · refine (take_none _ Wa X a c L (p + 1) K1 hL hE1 hX hl m (by omega) (by omega) (by omega)).mono ?_
    rintro e w2 ⟨rfl, hy2⟩
    have hz2 := hy2.size
    have HQ := Lib.hid hq
    clear hq
    go_wp2_with fail
    go_loopw [6, 8] (fun part lv wr => part = .slice none 0 0 ∧ (∃ ra rn rc, lv = .slice ra rn rc) ∧ Upd w wr [X]) (fun part _ _ => slLen part)
    case atStart => exact ⟨rfl, ⟨_, _, _, rfl⟩, (hy1.trans hy2).alloc _⟩
    case round =>
      obtain ⟨rfl, ⟨ra, rn, rc, rfl⟩, hyr⟩ := hrel
      go_wp2_with fail
      go_ret2
      exact ⟨hyr, .inr ⟨fun l h => by
        have h1 := h.1; rw [HX.out] at h1; have h2 := Option.some.inj h1
        have := okP_len h; have := HQ.out; have := HM.out; omega, _, _, _, rfl⟩⟩
  refine (take_some _ Wa X a c L (p + 1) K1 hL hE1 hX hl m hq (by omega)).mono ?_
  rintro e w2 ⟨ra, rn, rc, rfl, o2, K2, hy2⟩
  have hz2 := hy2.size
  obtain ⟨ps, hok, hpl⟩ := okP_of (L := L) (p := p) (n := n) HX.out (by omega) (by have := HM.out; omega)
  have hxs : (L.take (p + 1 + m)).drop (p + 1) = flPair ps := by
    rw [← hok.2.2, hpl, ← HM.out, List.drop_take]; congr 1; omega
  rw [hxs] at o2
  subst hpl
  have HOK := Lib.hid hok
  clear hok hxs
  obtain ⟨W3, hW3⟩ : ∃ W3, W3 = w2.alloc (.cells #[] 106) := ⟨_, rfl⟩
  have hE3 : Ext w2 W3 := by rw [hW3]; exact (Ext.refl _).alloc _
  have hs3 : W3.heap.size = w2.heap.size + 1 := by rw [hW3]; simp
  have hO3 : OwnI w2.heap.size 106 2 W3 (.slice (some ⟨w2.heap.size, 0, none⟩) 0 0) (flPair (ps.take 0)) := by rw [hW3]; exact Own.fresh w2 106 2
  have HW3 := Lib.hid hW3
  have hrn : rn = 2 * ps.length := by
    obtain ⟨_, _, e9, _⟩ := o2.ints.one
    injection e9 with _ e2 _
    rw [e2, length_flPair]; omega
  have HRN := Lib.hid hrn
  have hpart : Ints 1 w2 (.slice ra rn rc) (flPair (ps.drop 0)) := o2.ints
  clear hrn
  clear hW3 o2
  go_wp2_with fail
  rw [← HW3.out]
  go_loopw [6, 8] (fun part lv wr => ∃ k : Nat, k ≤ ps.length ∧ Ext w2 wr ∧ (∃ pa pn pc, part = .slice pa pn pc ∧ pn = 2 * (ps.length - k) ∧ Ints 1 w2 (.slice pa pn pc) (flPair (ps.drop k))) ∧ OwnI w2.heap.size 106 2 wr lv (flPair (ps.take k))) (fun part _ _ => slLen part)
  case atStart => exact ⟨0, Nat.zero_le _, hE3, ⟨_, _, _, rfl, by simpa using HRN.out, hpart⟩, hO3⟩
  case round =>
    obtain ⟨k, hk, he, ⟨pa, pn, pc, rfl, hpn, hI⟩, hown⟩ := hrel
    obtain ⟨la, ln, lc, rfl⟩ := hown.shape
    have hsz := he.size
    by_cases hlt : k < ps.length
    · obtain ⟨d, hd⟩ : ∃ d, ps[k]? = some d := ⟨_, List.getElem?_eq_getElem hlt⟩
      obtain ⟨h1, h2⟩ := List.getElem?_eq_some_iff.1 hd
      have hdr : ps.drop k = d :: ps.drop (k + 1) := by rw [← h2]; exact List.drop_eq_getElem_cons h1
      rw [hdr] at hI
      obtain ⟨_, _, _, e9, hlen9, hcap9, hm9, hnil9, hat9⟩ := hI
      injection e9 with e1 e2 e3; subst e1; subst e2; subst e3
      obtain ⟨b1, o1, rfl⟩ : ∃ b1 o1, pa = some ⟨b1, o1, none⟩ := by
        cases hpa : pa with
        | none => have := hnil9 hpa; simp at hlen9; omega
        | some q => obtain ⟨b, o, sp⟩ := q; obtain ⟨rfl, _⟩ := hat9 b o sp hpa (by omega); exact ⟨b, o, rfl⟩
      obtain ⟨_, hbl, hcc⟩ := hat9 b1 o1 none rfl (by omega)
      have hI' : Ints 1 w2 (.slice (some ⟨b1, o1, none⟩) pn pc) ([d.Key, d.Value] ++ flPair (ps.drop (k + 1))) := ⟨_, _, _, rfl, hlen9, hcap9, hm9, hnil9, hat9⟩
      have hnx := hI'.sliced (l := 2) (m := pn) (by omega) (Nat.le_refl _)
      have hnl : ([d.Key, d.Value] ++ flPair (ps.drop (k + 1))).length = pn := by simp at hlen9 ⊢; simpa [flPair, DPair.ints] using hlen9
      rw [List.take_of_length_le (by omega), show ([d.Key, d.Value] ++ flPair (ps.drop (k + 1))).drop 2 = flPair (ps.drop (k + 1)) from rfl] at hnx
      simp only [Go.sliced, Nat.mul_one] at hnx
      have x0 : w2.cell? ⟨b1, o1, none⟩ = some (.int .i64 d.Key) := by have := hcc 0 (.int .i64 d.Key) (by simp [flPair, DPair.ints]); simpa using this
      have d0 := he.cell x0
      have x1 : w2.cell? ⟨b1, o1 + 1, none⟩ = some (.int .i64 d.Value) := by have := hcc 1 (.int .i64 d.Value) (by simp [flPair, DPair.ints]); simpa using this
      have d1 := he.cell x1
      unfold maxLen at hm9
      have hpos : decide (((pn : Nat) : Int) > 0) = true := by simp; omega
      have hp2 : (0 : Int) < (pn : Int) := by omega
      have hq0 : (0 : Int) < (pn : Int) := by omega
      have hr0 : 0 < pn := by omega
      have hq1 : (1 : Int) < (pn : Int) := by omega
      have hr1 : 1 < pn := by omega
      have HD := Lib.hid hd; have HO := Lib.hid hown; have HNX := Lib.hid hnx; have HPN := Lib.hid hpn
      have hlk : (flPair (ps.take k)).length = k * 2 := by rw [length_flPair, List.length_take]; congr 1; omega
      clear hd hown hnx hcc hat9 hI' hlen9 hnl hnil9 hpn h2 hdr
      go_wp2_with fail
      go_region_held3 (fun w' => w'.cell? ⟨b1, o1, none⟩ = some (.int .i64 d.Key) ∧ w'.cell? ⟨b1, o1 + 1, none⟩ = some (.int .i64 d.Value)) (first | (refine ⟨Ext.cell (w := w2) ?_ x0, Ext.cell (w := w2) ?_ x1⟩ <;> (repeat' (first | (with_reducible exact Ext.refl _) | (with_reducible assumption) | (with_reducible refine Ext.drewN ?_ _) | (with_reducible refine Ext.drew ?_) | (with_reducible refine Ext.alloc ?_ _) | (with_reducible refine Ext.setCell ?_ ?_ _) | (with_reducible refine Ext.setRow ?_ ?_ _) | (with_reducible exact Nat.le_refl _) | (with_reducible refine Ext.trans ?_ (by assumption)) | omega)); done)) (first | (refine step_append_own rfl (.tmp 34) (.tmp 42) 33 rfl 106 i0 _ 2 16 Try.underlying33 hi hz0 hzz1 hzz2 rfl (by decide) w2.heap.size (.slice la ln lc) _ rfl (Own.ext HO.out (by repeat' (first | (with_reducible exact Ext.refl _) | (with_reducible assumption) | (with_reducible refine Ext.drewN ?_ _) | (with_reducible refine Ext.drew ?_) | (with_reducible refine Ext.alloc ?_ _) | (with_reducible refine Ext.setCell ?_ ?_ _) | (with_reducible refine Ext.setRow ?_ ?_ _) | (with_reducible exact Nat.le_refl _) | (with_reducible refine Ext.trans ?_ (by assumption)) | omega))) ⟨wr.heap.size, 0, none⟩ 1 1 ([d.Key, d.Value].map (.int .i64)) rfl (by simp) (fun j u hu => by rw [add_lit0, Nat.zero_add, ((Blk.new wr _ _).drew).cell]; simpa using hu) (ints_oneCell _ _) (by omega) 1000 (by simp [hlk]; omega) (by unfold maxLen; omega) (by omega) (by simp; omega) ?_; intro v3 wa hown1 hga; have hxa : Ext w2 wa := Ext.own (v := .slice la ln lc) (he.trans (by repeat' (first | (with_reducible exact Ext.refl _) | (with_reducible assumption) | (with_reducible refine Ext.drewN ?_ _) | (with_reducible refine Ext.drew ?_) | (with_reducible refine Ext.alloc ?_ _) | (with_reducible refine Ext.setCell ?_ ?_ _) | (with_reducible refine Ext.setRow ?_ ?_ _) | (with_reducible exact Nat.le_refl _) | (with_reducible refine Ext.trans ?_ (by assumption)) | omega))) (Own.ext HO.out (by repeat' (first | (with_reducible exact Ext.refl _) | (with_reducible assumption) | (with_reducible refine Ext.drewN ?_ _) | (with_reducible refine Ext.drew ?_) | (with_reducible refine Ext.alloc ?_ _) | (with_reducible refine Ext.setCell ?_ ?_ _) | (with_reducible refine Ext.setRow ?_ ?_ _) | (with_reducible exact Nat.le_refl _) | (with_reducible refine Ext.trans ?_ (by assumption)) | omega))) (Nat.le_refl _) hga))
      all_goals
        have hown3 : OwnI w2.heap.size 106 2 wa v3 (flPair (ps.take k) ++ [d.Key, d.Value]) := by simpa [OwnI] using hown1
        go_wp2_with fail
        go_roundw
        case rel => exact ⟨k + 1, by omega, hxa, ⟨_, _, _, rfl, by have := HPN.out; omega, by first | exact HNX.out | (have h9 := HNX.out; simpa using h9)⟩, by rw [take_snoc HD.out, flPair_snoc]; exact hown3⟩
        case measure => simp [slLen]; omega
    · obtain rfl : k = ps.length := by omega
      rw [List.take_length] at hown
      have hpn0 : pn = 0 := by omega
      clear hpn hI
      subst hpn0
      go_wp2_with fail
      go_ret2
      refine ⟨(hy1.trans hy2).ext he, .inl ⟨ps, la, ln, lc, HOK.out, rfl, OwnI.mono hown (by omega), ?_⟩⟩
      · have h9 := K2.ext he
        rw [HM.out] at h9
        exact h9
set_option maxHeartbeats 8000000 in
set_option maxRecDepth 100000 in
theorem takeJobs_c (w Wa : World) (X : Nat) (a : Option Addr) (c : Nat) (L : List Int) (p : Nat) (hK : Blk w X 80 #[.slice a L.length c, .int .i64 (p : Int)]) (hL : Ints 1 Wa (.slice a L.length c) L) (hE : Ext Wa w) (hX : Wa.heap.size ≤ X) (hl : L.length ≤ 100000000000) (hp0 : p ≤ L.length) :
    Calls Try.prog 75 #[.pointer (some ⟨X, 0, none⟩)] w (fun e w' => Upd w w' [X] ∧ ((∃ l ra rn rc, okJ L p l ∧ e = .returned (.tuple #[.slice ra rn rc, .bool true]) ∧ OwnI w.heap.size 104 5 w' (.slice ra rn rc) (flJob l) ∧ Blk w' X 80 #[.slice a L.length c, .int .i64 ((p + 1 + 5 * l.length : Nat) : Int)]) ∨ ((∀ l, ¬ okJ L p l) ∧ ∃ ra rn rc, e = .returned (.tuple #[.slice ra rn rc, .bool false])))) := by
  have hXl := hK.lt
  by_cases hp : p < L.length
  rotate_left
  · have HP := Lib.hid hp
    clear hp
    go_enter Try.func75, Try.ntmps75
    go_wp2_with fail
    refine (next_none _ Wa X a c L p hK hL hE hX hl (by have := HP.out; omega) (by omega)).mono ?_
    rintro e w1 ⟨rfl, hy1⟩
    go_wp2_with fail
    go_ret2
    exact ⟨hy1, .inr ⟨fun l h => by have := okJ_len h; have := HP.out; omega, _, _, _, rfl⟩⟩
  go_enter Try.func75, Try.ntmps75
  go_wp2_with fail
  refine (next_some _ Wa X a c L p hK hL hE hX hl hp).mono ?_
  rintro e w1 ⟨x, hx, rfl, K1, hy1⟩
  have hz1 := hy1.size
  have HX := Lib.hid hx
  clear hx
  go_wp2_with fail
  refine (between_c _ x 0 8).mono ?_
  rintro e w1' ⟨rfl, rfl⟩
  cases hb : inb x 0 8
  · go_wp2_with fail
    go_ret2
    exact ⟨hy1, .inr ⟨fun l h => by have h1 := h.1; rw [HX.out] at h1; have h2 := Option.some.inj h1; have h3 := h.2.1; rw [h2] at hb; rw [inb_of (by omega) (by omega)] at hb; exact Bool.noConfusion hb, _, _, _, rfl⟩⟩
  obtain ⟨hx0, hx1⟩ := inb_true.1 hb
  obtain ⟨n, rfl⟩ := Int.eq_ofNat_of_zero_le hx0
  clear hb
  have hE1 : Ext Wa w1 := hE.upd_below hy1 (fun q hq => by simp at hq; omega)
  obtain ⟨m, hm⟩ : ∃ m : Nat, m = 5 * n := ⟨_, rfl⟩
  have hmI : 5 * (n : Int) = (m : Int) := by omega
  have hml : m ≤ 1000 := by omega
  have HM := Lib.hid hm
  clear hm hx0
  obtain ⟨i0, hi, hz0, hzz1, hzz2⟩ := info_parts info_Job
  go_wp2_with fail
  by_cases hq : p + 1 + m ≤ L.length
  rotate_left
  · refine (take_none _ Wa X a c L (p + 1) K1 hL hE1 hX hl m (by omega) (by omega) (by omega)).mono ?_
    rintro e w2 ⟨rfl, hy2⟩
    have hz2 := hy2.size
    have HQ := Lib.hid hq
    clear hq
    go_wp2_with fail
    go_loopw [6, 8] (fun part lv wr => part = .slice none 0 0 ∧ (∃ ra rn rc, lv = .slice ra rn rc) ∧ Upd w wr [X]) (fun part _ _ => slLen part)
    case atStart => exact ⟨rfl, ⟨_, _, _, rfl⟩, (hy1.trans hy2).alloc _⟩
    case round =>
      obtain ⟨rfl, ⟨ra, rn, rc, rfl⟩, hyr⟩ := hrel
      go_wp2_with fail
      go_ret2
      exact ⟨hyr, .inr ⟨fun l h => by
        have h1 := h.1; rw [HX.out] at h1; have h2 := Option.some.inj h1
        have := okJ_len h; have := HQ.out; have := HM.out; omega, _, _, _, rfl⟩⟩
  refine (take_some _ Wa X a c L (p + 1) K1 hL hE1 hX hl m hq (by omega)).mono ?_
  rintro e w2 ⟨ra, rn, rc, rfl, o2, K2, hy2⟩
  have hz2 := hy2.size
  obtain ⟨ps, hok, hpl⟩ := okJ_of (L := L) (p := p) (n := n) HX.out (by omega) (by have := HM.out; omega)
  have hxs : (L.take (p + 1 + m)).drop (p + 1) = flJob ps := by
    rw [← hok.2.2, hpl, ← HM.out, List.drop_take]; congr 1; omega
  rw [hxs] at o2
  subst hpl
  have HOK := Lib.hid hok
  clear hok hxs
  obtain ⟨W3, hW3⟩ : ∃ W3, W3 = w2.alloc (.cells #[] 104) := ⟨_, rfl⟩
  have hE3 : Ext w2 W3 := by rw [hW3]; exact (Ext.refl _).alloc _
  have hs3 : W3.heap.size = w2.heap.size + 1 := by rw [hW3]; simp
  have hO3 : OwnI w2.heap.size 104 5 W3 (.slice (some ⟨w2.heap.size, 0, none⟩) 0 0) (flJob (ps.take 0)) := by rw [hW3]; exact Own.fresh w2 104 5
  have HW3 := Lib.hid hW3
  have hrn : rn = 5 * ps.length := by
    obtain ⟨_, _, e9, _⟩ := o2.ints.one
    injection e9 with _ e2 _
    rw [e2, length_flJob]; omega
  have HRN := Lib.hid hrn
  have hpart : Ints 1 w2 (.slice ra rn rc) (flJob (ps.drop 0)) := o2.ints
  clear hrn
  clear hW3 o2
  go_wp2_with fail
  rw [← HW3.out]
  go_loopw [6, 8] (fun part lv wr => ∃ k : Nat, k ≤ ps.length ∧ Ext w2 wr ∧ (∃ pa pn pc, part = .slice pa pn pc ∧ pn = 5 * (ps.length - k) ∧ Ints 1 w2 (.slice pa pn pc) (flJob (ps.drop k))) ∧ OwnI w2.heap.size 104 5 wr lv (flJob (ps.take k))) (fun part _ _ => slLen part)
  case atStart => exact ⟨0, Nat.zero_le _, hE3, ⟨_, _, _, rfl, by simpa using HRN.out, hpart⟩, hO3⟩
  case round =>
    obtain ⟨k, hk, he, ⟨pa, pn, pc, rfl, hpn, hI⟩, hown⟩ := hrel
    obtain ⟨la, ln, lc, rfl⟩ := hown.shape
    have hsz := he.size
    by_cases hlt : k < ps.length
    · obtain ⟨d, hd⟩ : ∃ d, ps[k]? = some d := ⟨_, List.getElem?_eq_getElem hlt⟩
      obtain ⟨h1, h2⟩ := List.getElem?_eq_some_iff.1 hd
      have hdr : ps.drop k = d :: ps.drop (k + 1) := by rw [← h2]; exact List.drop_eq_getElem_cons h1
      rw [hdr] at hI
      obtain ⟨_, _, _, e9, hlen9, hcap9, hm9, hnil9, hat9⟩ := hI
      injection e9 with e1 e2 e3; subst e1; subst e2; subst e3
      obtain ⟨b1, o1, rfl⟩ : ∃ b1 o1, pa = some ⟨b1, o1, none⟩ := by
        cases hpa : pa with
        | none => have := hnil9 hpa; simp at hlen9; omega
        | some q => obtain ⟨b, o, sp⟩ := q; obtain ⟨rfl, _⟩ := hat9 b o sp hpa (by omega); exact ⟨b, o, rfl⟩
      obtain ⟨_, hbl, hcc⟩ := hat9 b1 o1 none rfl (by omega)
      have hI' : Ints 1 w2 (.slice (some ⟨b1, o1, none⟩) pn pc) ([d.Id, d.Due, d.Key, d.Value, d.Fired] ++ flJob (ps.drop (k + 1))) := ⟨_, _, _, rfl, hlen9, hcap9, hm9, hnil9, hat9⟩
      have hnx := hI'.sliced (l := 5) (m := pn) (by omega) (Nat.le_refl _)
      have hnl : ([d.Id, d.Due, d.Key, d.Value, d.Fired] ++ flJob (ps.drop (k + 1))).length = pn := by simp at hlen9 ⊢; simpa [flJob, DJob.ints] using hlen9
      rw [List.take_of_length_le (by omega), show ([d.Id, d.Due, d.Key, d.Value, d.Fired] ++ flJob (ps.drop (k + 1))).drop 5 = flJob (ps.drop (k + 1)) from rfl] at hnx
      simp only [Go.sliced, Nat.mul_one] at hnx
      have x0 : w2.cell? ⟨b1, o1, none⟩ = some (.int .i64 d.Id) := by have := hcc 0 (.int .i64 d.Id) (by simp [flJob, DJob.ints]); simpa using this
      have d0 := he.cell x0
      have x1 : w2.cell? ⟨b1, o1 + 1, none⟩ = some (.int .i64 d.Due) := by have := hcc 1 (.int .i64 d.Due) (by simp [flJob, DJob.ints]); simpa using this
      have d1 := he.cell x1
      have x2 : w2.cell? ⟨b1, o1 + 2, none⟩ = some (.int .i64 d.Key) := by have := hcc 2 (.int .i64 d.Key) (by simp [flJob, DJob.ints]); simpa using this
      have d2 := he.cell x2
      have x3 : w2.cell? ⟨b1, o1 + 3, none⟩ = some (.int .i64 d.Value) := by have := hcc 3 (.int .i64 d.Value) (by simp [flJob, DJob.ints]); simpa using this
      have d3 := he.cell x3
      have x4 : w2.cell? ⟨b1, o1 + 4, none⟩ = some (.int .i64 d.Fired) := by have := hcc 4 (.int .i64 d.Fired) (by simp [flJob, DJob.ints]); simpa using this
      have d4 := he.cell x4
      unfold maxLen at hm9
      have hpos : decide (((pn : Nat) : Int) > 0) = true := by simp; omega
      have hp2 : (0 : Int) < (pn : Int) := by omega
      have hq0 : (0 : Int) < (pn : Int) := by omega
      have hr0 : 0 < pn := by omega
      have hq1 : (1 : Int) < (pn : Int) := by omega
      have hr1 : 1 < pn := by omega
      have hq2 : (2 : Int) < (pn : Int) := by omega
      have hr2 : 2 < pn := by omega
      have hq3 : (3 : Int) < (pn : Int) := by omega
      have hr3 : 3 < pn := by omega
      have hq4 : (4 : Int) < (pn : Int) := by omega
      have hr4 : 4 < pn := by omega
      have HD := Lib.hid hd; have HO := Lib.hid hown; have HNX := Lib.hid hnx; have HPN := Lib.hid hpn
      have hlk : (flJob (ps.take k)).length = k * 5 := by rw [length_flJob, List.length_take]; congr 1; omega
      clear hd hown hnx hcc hat9 hI' hlen9 hnl hnil9 hpn h2 hdr
      go_wp2_with fail
      go_region_held3 (fun w' => w'.cell? ⟨b1, o1, none⟩ = some (.int .i64 d.Id) ∧ w'.cell? ⟨b1, o1 + 1, none⟩ = some (.int .i64 d.Due) ∧ w'.cell? ⟨b1, o1 + 2, none⟩ = some (.int .i64 d.Key) ∧ w'.cell? ⟨b1, o1 + 3, none⟩ = some (.int .i64 d.Value) ∧ w'.cell? ⟨b1, o1 + 4, none⟩ = some (.int .i64 d.Fired)) (first | (refine ⟨Ext.cell (w := w2) ?_ x0, Ext.cell (w := w2) ?_ x1, Ext.cell (w := w2) ?_ x2, Ext.cell (w := w2) ?_ x3, Ext.cell (w := w2) ?_ x4⟩ <;> (repeat' (first | (with_reducible exact Ext.refl _) | (with_reducible assumption) | (with_reducible refine Ext.drewN ?_ _) | (with_reducible refine Ext.drew ?_) | (with_reducible refine Ext.alloc ?_ _) | (with_reducible refine Ext.setCell ?_ ?_ _) | (with_reducible refine Ext.setRow ?_ ?_ _) | (with_reducible exact Nat.le_refl _) | (with_reducible refine Ext.trans ?_ (by assumption)) | omega)); done)) (first | (refine step_append_own rfl (.tmp 34) (.tmp 51) 34 rfl 104 i0 _ 5 40 Try.underlying34 hi hz0 hzz1 hzz2 rfl (by decide) w2.heap.size (.slice la ln lc) _ rfl (Own.ext HO.out (by repeat' (first | (with_reducible exact Ext.refl _) | (with_reducible assumption) | (with_reducible refine Ext.drewN ?_ _) | (with_reducible refine Ext.drew ?_) | (with_reducible refine Ext.alloc ?_ _) | (with_reducible refine Ext.setCell ?_ ?_ _) | (with_reducible refine Ext.setRow ?_ ?_ _) | (with_reducible exact Nat.le_refl _) | (with_reducible refine Ext.trans ?_ (by assumption)) | omega))) ⟨wr.heap.size, 0, none⟩ 1 1 ([d.Id, d.Due, d.Key, d.Value, d.Fired].map (.int .i64)) rfl (by simp) (fun j u hu => by rw [add_lit0, Nat.zero_add, ((Blk.new wr _ _).drew).cell]; simpa using hu) (ints_oneCell _ _) (by omega) 1000 (by simp [hlk]; omega) (by unfold maxLen; omega) (by omega) (by simp; omega) ?_; intro v3 wa hown1 hga; have hxa : Ext w2 wa := Ext.own (v := .slice la ln lc) (he.trans (by repeat' (first | (with_reducible exact Ext.refl _) | (with_reducible assumption) | (with_reducible refine Ext.drewN ?_ _) | (with_reducible refine Ext.drew ?_) | (with_reducible refine Ext.alloc ?_ _) | (with_reducible refine Ext.setCell ?_ ?_ _) | (with_reducible refine Ext.setRow ?_ ?_ _) | (with_reducible exact Nat.le_refl _) | (with_reducible refine Ext.trans ?_ (by assumption)) | omega))) (Own.ext HO.out (by repeat' (first | (with_reducible exact Ext.refl _) | (with_reducible assumption) | (with_reducible refine Ext.drewN ?_ _) | (with_reducible refine Ext.drew ?_) | (with_reducible refine Ext.alloc ?_ _) | (with_reducible refine Ext.setCell ?_ ?_ _) | (with_reducible refine Ext.setRow ?_ ?_ _) | (with_reducible exact Nat.le_refl _) | (with_reducible refine Ext.trans ?_ (by assumption)) | omega))) (Nat.le_refl _) hga))
      all_goals
        have hown3 : OwnI w2.heap.size 104 5 wa v3 (flJob (ps.take k) ++ [d.Id, d.Due, d.Key, d.Value, d.Fired]) := by simpa [OwnI] using hown1
        go_wp2_with fail
        go_roundw
        case rel => exact ⟨k + 1, by omega, hxa, ⟨_, _, _, rfl, by have := HPN.out; omega, by first | exact HNX.out | (have h9 := HNX.out; simpa using h9)⟩, by rw [take_snoc HD.out, flJob_snoc]; exact hown3⟩
        case measure => simp [slLen]; omega
    · obtain rfl : k = ps.length := by omega
      rw [List.take_length] at hown
      have hpn0 : pn = 0 := by omega
      clear hpn hI
      subst hpn0
      go_wp2_with fail
      go_ret2
      refine ⟨(hy1.trans hy2).ext he, .inl ⟨ps, la, ln, lc, HOK.out, rfl, OwnI.mono hown (by omega), ?_⟩⟩
      · have h9 := K2.ext he
        rw [HM.out] at h9
        exact h9

end Go.Proofs.Ytemhbbpbmgpcaaa
