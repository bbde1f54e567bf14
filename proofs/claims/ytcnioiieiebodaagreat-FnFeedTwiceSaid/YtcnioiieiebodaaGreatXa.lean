/- Contracts and plain laws: DR KP DM DK. -/
import Derived.Test.YtcnioiieiebodaaGreatYa
import Derived.Test.YtcnioiieiebodaaGreatYp
import Derived.Test.YtcnioiieiebodaaGreatYb
import Derived.Test.YtcnioiieiebodaaGreatYl
import Derived.Test.YtcnioiieiebodaaGreatYe
import Derived.Test.YtcnioiieiebodaaGreatYo
import Derived.Test.YtcnioiieiebodaaGreatYm
import Derived.Deep.DeepCutAuto
import Derived.Test.YtcnioiieiebodaaGreatXk
set_option linter.unusedSimpArgs false
set_option linter.unusedVariables false
set_option maxHeartbeats 8000000
set_option maxRecDepth 100000
namespace Go.G8
open Go.RowKit
theorem OwnI.set0 {B : Nat} {e : TypeId} {w : World} {X n c : Nat} {l : List Int} (h : OwnI B e 1 w (.slice (some ⟨X, 0, none⟩) n c) l) (hl : 0 < l.length) (u : Int) : OwnI B e 1 (w.setCell ⟨X, 0, none⟩ (.int .i64 u)) (.slice (some ⟨X, 0, none⟩) n c) (l.set 0 u) := by
 obtain ⟨len, h0, h | ⟨g, cap, cur, hv, hb, hgg, h1, h2, h3, h4⟩⟩ := h
 ·
  cases h.1
 injection hv with e1 e2 e3
 injection e1 with e1; injection e1 with e1
 subst e1; subst e2; subst e3
 refine ⟨_, by simpa using h0, .inr ⟨_, _, cur.setIfInBounds 0 (.int .i64 u), rfl, hb, ?_, h1, h2, by simpa using h3, ?_⟩⟩
 ·
  exact Blk.set_ hgg 0 _
 have hlen : l.length = n := by simpa using h0
 rw [Array.toList_setIfInBounds, List.map_set, ← h4]
 rw [Nat.mul_one]
 cases hc : cur.toList with
 | nil => simp
 | cons x t =>
  cases n with
  | zero => omega
  | succ n => simp
theorem OwnI.cellR {B : Nat} {e : TypeId} {w : World} {X n c : Nat} {l : List Int} (h : OwnI B e 1 w (.slice (some ⟨X, 0, none⟩) n c) l) {i : Nat} {x : Int} (hx : l[i]? = some x) : w.cell? ⟨X, i, none⟩ = some (.int .i64 x) := by
 obtain ⟨len, h0, h | ⟨g, cap, cur, hv, hb, hgg, h1, h2, h3, h4⟩⟩ := h
 ·
  cases h.1
 injection hv with e1 e2 e3
 injection e1 with e1; injection e1 with e1
 subst e1; subst e2; subst e3
 rw [Blk.cell hgg]
 have hm : (l.map (Value.int .i64))[i]? = some (.int .i64 x) := by rw [List.getElem?_map, hx]; rfl
 rw [← h4, List.getElem?_take] at hm
 split at hm
 ·
  rwa [Array.getElem?_toList] at hm
 cases hm
theorem OwnI.makeN (w : World) (e : TypeId) (n : Nat) (hn : n ≤ 1000) : OwnI w.heap.size e 1 (w.alloc (.cells (madeCells #[.int .i64 0] n) e)) (.slice (some ⟨w.heap.size, 0, none⟩) n n) (List.replicate n 0) :=
 Own.of_blk (cap := n) (Blk.new _ _ _) (Nat.le_refl _) (by simp [size_madeCells]) (by simp) (Nat.le_refl _) (by unfold maxLen; omega) (by
  intro j hj
  have hj' : j < n := by omega
  simp [madeCells, hj', Nat.mod_one])
end Go.G8
namespace Go.Proofs.YtcnioiieiebodaaGreat
open Go.RowKit Go.G8
theorem l1DrawRow_c {B : Nat} {w : World} {g : Nat} (h : Cur B w g) : Calls Tryz.prog 185 #[.pointer (some ⟨g, 0, none⟩)] w (Dr B w g fun v w' => ∃ l : List Int, OwnI w.heap.size 2 1 w' v l ∧ l.length ≤ 8) := by
 obtain ⟨i0, hi, hy0, hy1, hy2⟩ := info_parts info_Int64
 have hc0 := h; have E0 : Upd w w [g] := Upd.refl _ _
 have hg0 := h.lt
 go_enter Tryz.func185, Tryz.ntmps185
 have Ol0 : OwnI w.heap.size 2 1 (w.alloc (.cells #[] 2)) (.slice (some ⟨w.heap.size, 0, none⟩) 0 0) [] := OwnI.lit0 w _ _
 go_wp2_with fail
 refine (l1Below_c (cU B) 8).mono ?_
 rintro e w1 ⟨_, rfl, X1, hc1, n, rfl, pn, qn, rn⟩
 have hz1 := X1.sz
 have E1 : Upd w w1 [g] := X1.up
 have Ol1 : OwnI w.heap.size 2 1 w1 (.slice (some ⟨w.heap.size, 0, none⟩) 0 0) [] := OwnI.drawn (by exact ownT) X1 oM
 clear X1
 have qn := qn dC; clear rn
 obtain ⟨N, rfl⟩ := Int.eq_ofNat_of_zero_le pn
 go_wp2_with fail
 go_loopw [3, 4] (fun out kk wr => ∃ (k : Nat) (l : List Int), k ≤ 8 ∧ kk = .int .i64 k ∧ l.length + k ≤ 8 ∧ Upd w wr [g] ∧ Cur B wr g ∧ OwnI w.heap.size 2 1 wr out l) (fun _ kk _ => (intOf kk).toNat)
 case atStart => exact ⟨N, [], by omega, rfl, by simp; omega, E1, hc1, Ol1⟩
 case round =>
  obtain ⟨k, l, hk, rfl, hl, E2, hc2, Ol2⟩ := hrel
  obtain ⟨w2, hw⟩ : ∃ w2, w2 = wr := ⟨_, rfl⟩
  subst hw
  have hz2 := E2.size
  obtain ⟨a0, n0, c0, rfl⟩ := Ol2.shape
  by_cases hlt : 0 < k
  ·
   have hlt2 : (0 : Int) < (k : Int) := by omega
   go_wp2_with fail
   refine (l1Below_c (cU B) 50).mono ?_
   rintro e w3 ⟨_, rfl, X3, hc3, x, rfl, px, qx, rx⟩
   have hz3 := X3.sz
   have E3 : Upd w w3 [g] := X3.up
   have Ol3 : OwnI w.heap.size 2 1 w3 (.slice a0 n0 c0) l := OwnI.drawn (by exact ownT) X3 oM
   clear X3
   have qx := qx dC; clear rx
   have OO : OwnI w.heap.size 2 1 (w3.alloc (.cells #[.int .i64 x] 2)) (.slice a0 n0 c0) l := OwnI.ext1 Ol3 ((Ext.refl _).alloc _)
   go_wp2_with (first | (at_builtin; go_loud (refine wp_appendU rfl _ _ 79 rfl 2 i0 _ 1 8 Tryz.underlying79 hi hy0 hy1 hy2 rfl dC w.heap.size _ _ rfl OO _ [x] rfl (Sl.oneAt _ #[.int .i64 x] _ 1 _ (by first | rfl | simp) rfl) 1000 (by simp only [List.length_cons, List.length_nil]; omega) oM oM (by simp only [World.size_alloc]; omega) ?_; rotate_right; intro vv w4 On h3)))
   obtain ⟨b0, m0, q0, rfl⟩ := On.shape
   have Ol4 : OwnI w.heap.size 2 1 w4 (.slice b0 m0 q0) (l ++ [x]) := by exact On
   have hz4 := h3.size; (try simp only [World.size_alloc] at hz4)
   have E4 : Upd w w4 [g] := Upd.app (by exact updT) OO (.inr oM) h3
   have hc4 : Cur B w4 g := Cur.app (by exact curT) OO oM h3
   clear OO h3 On
   go_wp2_with fail
   go_roundw
   case rel => exact ⟨k - 1, l ++ [x], by omega, by (try simp only [Value.int.injEq, true_and]); first | omega | (congr 1; omega), by simp; omega, E4, hc4, Ol4⟩
   case measure => simp [intOf]; omega
  obtain rfl : k = 0 := by omega
  go_wp2_with fail
  go_ret
  exact ⟨_, rfl, by exact updT, by exact curT, l, Ol2, by omega⟩
theorem l3DrawFates_c {B : Nat} {w : World} {g : Nat} (h : Cur B w g) : Calls Tryz.prog 178 #[.pointer (some ⟨g, 0, none⟩)] w (Dr B w g fun v w' => ∃ l : List Int, OwnI w.heap.size 2 1 w' v l ∧ l.length ≤ 9) := by
 obtain ⟨i0, hi, hy0, hy1, hy2⟩ := info_parts info_Int64
 have hc0 := h; have E0 : Upd w w [g] := Upd.refl _ _
 have hg0 := h.lt
 go_enter Tryz.func178, Tryz.ntmps178
 have Ol0 : OwnI w.heap.size 2 1 (w.alloc (.cells #[] 2)) (.slice (some ⟨w.heap.size, 0, none⟩) 0 0) [] := OwnI.lit0 w _ _
 go_wp2_with fail
 refine (l1Below_c (cU B) 9).mono ?_
 rintro e w1 ⟨_, rfl, X1, hc1, n, rfl, pn, qn, rn⟩
 have hz1 := X1.sz
 have E1 : Upd w w1 [g] := X1.up
 have Ol1 : OwnI w.heap.size 2 1 w1 (.slice (some ⟨w.heap.size, 0, none⟩) 0 0) [] := OwnI.drawn (by exact ownT) X1 oM
 clear X1
 have qn := qn dC; clear rn
 obtain ⟨N, rfl⟩ := Int.eq_ofNat_of_zero_le pn
 go_wp2_with fail
 go_loopw [3, 4] (fun out kk wr => ∃ (k : Nat) (l : List Int), k ≤ 9 ∧ kk = .int .i64 k ∧ l.length + k ≤ 9 ∧ Upd w wr [g] ∧ Cur B wr g ∧ OwnI w.heap.size 2 1 wr out l) (fun _ kk _ => (intOf kk).toNat)
 case atStart => exact ⟨N, [], by omega, rfl, by simp; omega, E1, hc1, Ol1⟩
 case round =>
  obtain ⟨k, l, hk, rfl, hl, E2, hc2, Ol2⟩ := hrel
  obtain ⟨w2, hw⟩ : ∃ w2, w2 = wr := ⟨_, rfl⟩
  subst hw
  have hz2 := E2.size
  obtain ⟨a0, n0, c0, rfl⟩ := Ol2.shape
  by_cases hlt : 0 < k
  ·
   have hlt2 : (0 : Int) < (k : Int) := by omega
   go_wp2_with fail
   refine (l1Below_c (cU B) 3).mono ?_
   rintro e w3 ⟨_, rfl, X3, hc3, x, rfl, px, qx, rx⟩
   have hz3 := X3.sz
   have E3 : Upd w w3 [g] := X3.up
   have Ol3 : OwnI w.heap.size 2 1 w3 (.slice a0 n0 c0) l := OwnI.drawn (by exact ownT) X3 oM
   clear X3
   have qx := qx dC; clear rx
   have OO : OwnI w.heap.size 2 1 (w3.alloc (.cells #[.int .i64 x] 2)) (.slice a0 n0 c0) l := OwnI.ext1 Ol3 ((Ext.refl _).alloc _)
   go_wp2_with (first | (at_builtin; go_loud (refine wp_appendU rfl _ _ 79 rfl 2 i0 _ 1 8 Tryz.underlying79 hi hy0 hy1 hy2 rfl dC w.heap.size _ _ rfl OO _ [x] rfl (Sl.oneAt _ #[.int .i64 x] _ 1 _ (by first | rfl | simp) rfl) 1000 (by simp only [List.length_cons, List.length_nil]; omega) oM oM (by simp only [World.size_alloc]; omega) ?_; rotate_right; intro vv w4 On h3)))
   obtain ⟨b0, m0, q0, rfl⟩ := On.shape
   have Ol4 : OwnI w.heap.size 2 1 w4 (.slice b0 m0 q0) (l ++ [x]) := by exact On
   have hz4 := h3.size; (try simp only [World.size_alloc] at hz4)
   have E4 : Upd w w4 [g] := Upd.app (by exact updT) OO (.inr oM) h3
   have hc4 : Cur B w4 g := Cur.app (by exact curT) OO oM h3
   clear OO h3 On
   go_wp2_with fail
   go_roundw
   case rel => exact ⟨k - 1, l ++ [x], by omega, by (try simp only [Value.int.injEq, true_and]); first | omega | (congr 1; omega), by simp; omega, E4, hc4, Ol4⟩
   case measure => simp [intOf]; omega
  obtain rfl : k = 0 := by omega
  go_wp2_with fail
  refine (l1Once_c (cU B) 8).mono ?_
  rintro e w3 ⟨_, rfl, X3, hc3, b, rfl⟩
  have hz3 := X3.sz
  have E3 : Upd w w3 [g] := X3.up
  have Ol3 : OwnI w.heap.size 2 1 w3 (.slice a0 n0 c0) l := OwnI.drawn (by exact ownT) X3 oM
  clear X3
  cases b
  rotate_left
  ·
   rcases Nat.eq_zero_or_pos l.length with h00 | h00
   ·
    obtain rfl := List.length_eq_zero_iff.1 h00
    obtain ⟨ta, tn, tc, hs, hl0, hcc, hm0, hor⟩ := Own.open_ Ol3
    injection hs with hs1 hs2 hs3; subst hs1; subst hs2; subst hs3
    have hn0 : n0 = 0 := by simpa using hl0.symm
    subst hn0
    go_wp2_with fail
    go_ret
    exact ⟨_, rfl, by exact updT, by exact curT, [], Ol3, by simp⟩
   obtain ⟨ta, tn, tc, hs, hl0, hcc, hm0, hor⟩ := Own.open_ Ol3
   injection hs with hs1 hs2 hs3; subst hs1; subst hs2; subst hs3
   have hn0 : n0 = l.length := by simp at hl0; omega
   subst hn0
   have hd : decide (0 < (l.length : Int)) = true := by simp; omega
   rcases hor with h01 | ⟨X, cur, rfl, hXB, hX, hXs, hXp⟩
   ·
    omega
   have HO := Lib.hid hX; have HS := Lib.hid hXs; have HP := Lib.hid hXp; clear hXs hXp
   have CX := hX.cell; have FX := hX.frozen; have LX := hX.lt
   go_wp2_with fail
   refine (l1Odd_c (cU B)).mono ?_
   rintro e w4 ⟨_, rfl, X4, hc4, u, rfl⟩
   have hz4 := X4.sz
   have E4 : Upd w w4 [g] := X4.up
   have Ol4 : OwnI w.heap.size 2 1 w4 (.slice (some ⟨X, 0, none⟩) l.length c0) l := OwnI.drawn (by exact ownT) X4 oM
   clear X4
   obtain ⟨cur2, KX4⟩ := Own.typed' Ol4 (X := X) rfl
   have FX4 := KX4.frozen; have LX4 := KX4.lt
   obtain ⟨y0, hv0⟩ : ∃ y, l[0]? = some y := ⟨_, List.getElem?_eq_getElem h00⟩
   have hk9 := OwnI.cellR Ol4 hv0
   go_wp2_with fail
   go_ret
   exact ⟨_, rfl, by exact updT, by exact curT, l.set 0 u, OwnI.set0 Ol4 h00 u, by simp; omega⟩
  go_wp2_with fail
  go_ret
  exact ⟨_, rfl, by exact updT, by exact curT, l, Ol3, by omega⟩
theorem l1DrawAny_c {B : Nat} {w : World} {g : Nat} (h : Cur B w g) : Calls Tryz.prog 142 #[.pointer (some ⟨g, 0, none⟩)] w (Dr B w g fun v w' => ∃ l : List Int, OwnI w.heap.size 2 1 w' v l ∧ l.length ≤ 60) := by
 obtain ⟨i0, hi, hy0, hy1, hy2⟩ := info_parts info_Int64
 have hc0 := h; have E0 : Upd w w [g] := Upd.refl _ _
 have hg0 := h.lt
 go_enter Tryz.func142, Tryz.ntmps142
 go_wp2_with fail
 refine (l1DrawRow_c (cU B)).mono ?_
 rintro e w1 ⟨_, rfl, X1, hc1, l, Ol1, hl⟩
 have hz1 := X1.sz
 have E1 : Upd w w1 [g] := X1.up
 clear X1
 obtain ⟨a0, n0, c0, rfl⟩ := Ol1.shape
 go_wp2_with fail
 refine (l1Once_c (cU B) 6).mono ?_
 rintro e w2 ⟨_, rfl, X2, hc2, b1, rfl⟩
 have hz2 := X2.sz
 have E2 : Upd w w2 [g] := X2.up
 have Ol2 : OwnI w.heap.size 2 1 w2 (.slice a0 n0 c0) l := OwnI.drawn (by exact ownT) X2 oM
 clear X2
 cases b1
 rotate_left
 ·
  go_wp2_with fail
  refine (l1Below_c (cU B) 3).mono ?_
  rintro e w3 ⟨_, rfl, X3, hc3, m, rfl, pm, qm, rm⟩
  have hz3 := X3.sz
  have E3 : Upd w w3 [g] := X3.up
  have Ol3 : OwnI w.heap.size 2 1 w3 (.slice a0 n0 c0) l := OwnI.drawn (by exact ownT) X3 oM
  clear X3
  have qm := qm dC; clear rm
  obtain rfl | rfl | rfl : m = 0 ∨ m = 1 ∨ m = 2 := by omega
  ·
   go_wp2_with fail
   refine (l1Num_c (cU B) 1000000000 oM oM).mono ?_
   rintro e w4 ⟨_, rfl, X4, hc4, x, rfl⟩
   have hz4 := X4.sz
   have E4 : Upd w w4 [g] := X4.up
   have Ol4 : OwnI w.heap.size 2 1 w4 (.slice a0 n0 c0) l := OwnI.drawn (by exact ownT) X4 oM
   clear X4
   have OO : OwnI w.heap.size 2 1 (w4.alloc (.cells #[.int .i64 x] 2)) (.slice a0 n0 c0) l := OwnI.ext1 Ol4 ((Ext.refl _).alloc _)
   go_wp2_with (first | (at_builtin; go_loud (refine wp_appendU rfl _ _ 79 rfl 2 i0 _ 1 8 Tryz.underlying79 hi hy0 hy1 hy2 rfl dC w.heap.size _ _ rfl OO _ [x] rfl (Sl.oneAt _ #[.int .i64 x] _ 1 _ (by first | rfl | simp) rfl) 1000 (by simp only [List.length_cons, List.length_nil]; omega) oM oM (by simp only [World.size_alloc]; omega) ?_; rotate_right; intro vv w5 On h3)))
   obtain ⟨b0, m0, q0, rfl⟩ := On.shape
   have Ol5 : OwnI w.heap.size 2 1 w5 (.slice b0 m0 q0) (l ++ [x]) := by exact On
   have hz5 := h3.size; (try simp only [World.size_alloc] at hz5)
   have E5 : Upd w w5 [g] := Upd.app (by exact updT) OO (.inr oM) h3
   have hc5 : Cur B w5 g := Cur.app (by exact curT) OO oM h3
   clear OO h3 On
   go_wp2_with fail
   go_ret
   exact ⟨_, rfl, by exact updT, by exact curT, l ++ [x], Ol5, by simp; omega⟩
  ·
   go_wp2_with fail
   refine (l1From_c (cU B) (-1) 1 oM oM oM).mono ?_
   rintro e w4 ⟨_, rfl, X4, hc4, x, rfl, px, qx⟩
   have hz4 := X4.sz
   have E4 : Upd w w4 [g] := X4.up
   have Ol4 : OwnI w.heap.size 2 1 w4 (.slice a0 n0 c0) l := OwnI.drawn (by exact ownT) X4 oM
   clear X4
   obtain ⟨N, hN⟩ : ∃ N : Nat, 48 + x = (N : Int) := ⟨(48 + x).toNat, by omega⟩
   have hmk := fun W => run_make (P := Tryz.prog) W 79 2 i0 _ Tryz.underlying79 hi hy0 .i64 .i64 N N oM oM (by rw [hy2]; omega) oM
   simp only [Int.toNat_natCast] at hmk
   go_wp2_with fail
   clear hmk
   go_ret
   exact ⟨_, rfl, by exact updT, by exact curT, List.replicate N 0, (OwnI.makeN _ _ N oM).mono oM, by simp; omega⟩
  go_wp2_with fail
  refine (l1Odd_c (cU B)).mono ?_
  rintro e w4 ⟨_, rfl, X4, hc4, x, rfl⟩
  have hz4 := X4.sz
  have E4 : Upd w w4 [g] := X4.up
  have Ol4 : OwnI w.heap.size 2 1 w4 (.slice a0 n0 c0) l := OwnI.drawn (by exact ownT) X4 oM
  clear X4
  have OO : OwnI w.heap.size 2 1 (w4.alloc (.cells #[.int .i64 x] 2)) (.slice a0 n0 c0) l := OwnI.ext1 Ol4 ((Ext.refl _).alloc _)
  go_wp2_with (first | (at_builtin; go_loud (refine wp_appendU rfl _ _ 79 rfl 2 i0 _ 1 8 Tryz.underlying79 hi hy0 hy1 hy2 rfl dC w.heap.size _ _ rfl OO _ [x] rfl (Sl.oneAt _ #[.int .i64 x] _ 1 _ (by first | rfl | simp) rfl) 1000 (by simp only [List.length_cons, List.length_nil]; omega) oM oM (by simp only [World.size_alloc]; omega) ?_; rotate_right; intro vv w5 On h3)))
  obtain ⟨b0, m0, q0, rfl⟩ := On.shape
  have Ol5 : OwnI w.heap.size 2 1 w5 (.slice b0 m0 q0) (l ++ [x]) := by exact On
  have hz5 := h3.size; (try simp only [World.size_alloc] at hz5)
  have E5 : Upd w w5 [g] := Upd.app (by exact updT) OO (.inr oM) h3
  have hc5 : Cur B w5 g := Cur.app (by exact curT) OO oM h3
  clear OO h3 On
  go_wp2_with fail
  go_ret
  exact ⟨_, rfl, by exact updT, by exact curT, l ++ [x], Ol5, by simp; omega⟩
 go_wp2_with fail
 go_ret
 exact ⟨_, rfl, by exact updT, by exact curT, l, Ol2, by omega⟩
end Go.Proofs.YtcnioiieiebodaaGreat
namespace Go.G8
open Go.RowKit
structure Kp (B : Nat) (ts : List TypeId) (w w' : World) : Prop where
 size : w.heap.size ≤ w'.heap.size
 block : ∀ k cs t, B ≤ k → w.heap[k]? = some (.cells cs t) → t ∉ ts → w'.heap[k]? = w.heap[k]?
section
variable {B : Nat} {ts : List TypeId} {a b c : World}
theorem Kp.refl (B : Nat) (ts : List TypeId) (w : World) : Kp B ts w w := ⟨Nat.le_refl _, fun _ _ _ _ _ _ => rfl⟩
theorem Kp.trans (h : Kp B ts a b) (k : Kp B ts b c) : Kp B ts a c := ⟨Nat.le_trans h.size k.size, fun i cs t hB hi ht => (k.block i cs t hB ((h.block i cs t hB hi ht).trans hi) ht).trans (h.block i cs t hB hi ht)⟩
theorem Kp.ext (h : Kp B ts a b) (x : Ext b c) : Kp B ts a c := h.trans ⟨x.size, fun i cs t _ hi _ => Below.block x i (Array.getElem?_eq_some_iff.1 hi).1⟩
theorem Kp.upd {g : Nat} (h : Kp B ts a b) (x : Upd b c [g]) (hg : g < B) : Kp B ts a c := h.trans ⟨x.size, fun i cs t hB hi _ => x.block i (Array.getElem?_eq_some_iff.1 hi).1 (by simp; omega)⟩
theorem Kp.alloc (h : Kp B ts a b) (o : Obj) : Kp B ts a (b.alloc o) := h.ext ((Ext.refl _).alloc _)
theorem Kp.drew (h : Kp B ts a b) : Kp B ts a b.drew := h.ext (Ext.drew (Ext.refl _))
theorem Kp.drewN (h : Kp B ts a b) (n : Nat) : Kp B ts a (b.drewN n) := h.ext ((Ext.refl _).drewN n)
theorem Kp.setB (h : Kp B ts a b) {X : Nat} {t : TypeId} {cs : Array Value} (hX : Blk b X t cs) (ht : t ∈ ts) (i : Nat) (u : Value) : Kp B ts a (b.setCell ⟨X, i, none⟩ u) :=
 h.trans ⟨by simp [World.setCell], fun k cs' t' _ hi hn => Below.heap_setCell _ _ _ _ (fun e => by
  subst e
  unfold Blk at hX
  rw [hX] at hi
  injection hi with hi
  injection hi with _ hi
  exact hn (hi ▸ ht))⟩
theorem Kp.rowB (h : Kp B ts a b) {X : Nat} {t : TypeId} {cs : Array Value} (hX : Blk b X t cs) (ht : t ∈ ts) (cells : Array Value) : Kp B ts a (b.setRow X cells) :=
 h.trans ⟨by rw [size_setRow]; exact Nat.le_refl _, fun k cs' t' _ hi hn => heap_setRow_ne b cells (fun e => by
  subst e
  unfold Blk at hX
  rw [hX] at hi
  injection hi with hi
  injection hi with _ hi
  exact hn (hi ▸ ht))⟩
theorem Own.kp {e : TypeId} {n : Nat} {v : Value} {cs : List Value} (h : Own B e n a v cs) (x : Kp B ts a b) (he : e ∉ ts) : Own B e n b v cs := by
 obtain ⟨len, h0, h | ⟨g, cap, cur, rfl, hb, hgg, rest⟩⟩ := h
 ·
  exact ⟨len, h0, .inl h⟩
 refine ⟨len, h0, .inr ⟨g, cap, cur, rfl, hb, ?_, rest⟩⟩
 rw [x.block g cur e hb hgg he]
 exact hgg
theorem OwnI.kp {e : TypeId} {n : Nat} {v : Value} {xs : List Int} (h : OwnI B e n a v xs) (x : Kp B ts a b) (he : e ∉ ts) : OwnI B e n b v xs := Own.kp h x he
theorem OwnNs.kp {e e1 : TypeId} {n : Nat} {v : Value} {rows : List NRow} {ss : List Value} (h : OwnNs B e e1 n a v rows ss) (x : Kp B ts a b) (he : e ∉ ts) (he1 : e1 ∉ ts) : OwnNs B e e1 n b v rows ss :=
 ⟨h.1, h.2.1, Own.kp h.2.2.1 x he, ⟨fun i s r h1 h2 => OwnI.kp (h.2.2.2.own i s r h1 h2) x he1, h.2.2.2.two, h.2.2.2.out⟩⟩
end
end Go.G8
namespace Go.Proofs.YtcnioiieiebodaaGreat
open Go.RowKit Go.G8
abbrev boxTs : List TypeId := [65, 63, 208, 57, 68, 196, 105, 30, 61]
section
variable {B B' : Nat} {w w' a b : World} {v : Value}
theorem IsDisk.kp {s : DDisk} (h : IsDisk B w v s) (x : Kp B boxTs w w') : IsDisk B w' v s := let ⟨t0, t1, s0, s1, e, h0, h1, hd⟩ := h; ⟨t0, t1, s0, s1, e, h0.kp x dC dC, h1.kp x dC dC, hd⟩
theorem OwState.kp {s : DState} {F : List Nat} (h : OwState B w v s F) (x : Kp B boxTs w w') : OwState B w' v s F := let ⟨t0, t1, e, h0, h1, hF⟩ := h; ⟨t0, t1, e, h0.kp x dC, h1.kp x dC, hF⟩
theorem IsState.kp {s : DState} (h : IsState B w v s) (x : Kp B boxTs w w') : IsState B w' v s := let ⟨t0, t1, e, h0, h1⟩ := h; ⟨t0, t1, e, h0.kp x dC, h1.kp x dC⟩
theorem IsShot.kp {s : DShot} (h : IsShot B w v s) (x : Kp B boxTs w w') : IsShot B w' v s := let ⟨t0, t1, e, h0, h1⟩ := h; ⟨t0, t1, e, h0.kp x dC, h1.kp x dC⟩
theorem OwStore.kp {s : DStore} {F : List Nat} (h : OwStore B w v s F) (x : Kp B boxTs w w') : OwStore B w' v s F := let ⟨t0, t1, t4, t5, s0, s1, e, h0, h1, h4, h5, hd, hF⟩ := h; ⟨t0, t1, t4, t5, s0, s1, e, h0.kp x dC dC, h1.kp x dC dC, h4.kp x dC, h5.kp x dC, hd, hF⟩
def IsStore (B : Nat) (w : World) (v : Value) (s : DStore) : Prop := ∃ F, OwStore B w v s F
theorem IsStore.kp {s : DStore} (h : IsStore B w v s) (x : Kp B boxTs w w') : IsStore B w' v s := let ⟨F, h⟩ := h; ⟨F, h.kp x⟩
theorem IsStore.rd {s : DStore} (h : IsStore B w v s) : RdStore w v s := let ⟨_, h⟩ := h; h.rd
theorem IsStore.mono {s : DStore} (h : IsStore B w v s) (x : B' ≤ B) : IsStore B' w v s := let ⟨F, h⟩ := h; ⟨F, h.mono x⟩
theorem kpT (h : Kp B boxTs a b := by ((repeat' (first | (with_reducible exact Kp.refl _ _ _) | (with_reducible assumption) | (with_reducible refine Kp.drewN ?_ _) | (with_reducible refine Kp.drew ?_) | (with_reducible refine Kp.alloc ?_ _) | (with_reducible refine Kp.setB ?_ blkT dC _ _) | (with_reducible refine Kp.rowB ?_ blkT dC _))); first | done | fail)) : Kp B boxTs a b := h
end
end Go.Proofs.YtcnioiieiebodaaGreat
namespace Go.G8
open Go.RowKit
open Go.Proofs.YtcnioiieiebodaaGreat
theorem Kp.less {B B' : Nat} {ts : List TypeId} {a b : World} (h : Kp B ts a b) (x : B ≤ B') : Kp B' ts a b := ⟨h.size, fun k cs t hB => h.block k cs t oM⟩
theorem rowOk_iff {r : List Int} : rowOk r = true ↔ r.length ≤ 48 ∧ ∀ x, x ∈ r → inb x 0 1000000000 = true := by simp [rowOk]
theorem tornRow_ok {a b : List Int} (ha : rowOk a = true) (hb : rowOk b = true) : rowOk (tornRow a b) = true := by
 rw [rowOk_iff] at *
 refine ⟨tornRow_len ha.1 hb.1, fun x hx => ?_⟩
 unfold tornRow at hx
 rcases List.mem_append.1 hx with h | h
 ·
  exact ha.2 x (List.mem_of_mem_take h)
 exact hb.2 x (List.mem_of_mem_drop h)
theorem fallStep_rows {all : Bool} {f : Int} {kept : List (List Int)} {x : DWrite} (h : ∀ r, r ∈ kept → rowOk r = true) (hx : rowOk x.Row = true) : ∀ r, r ∈ fallStep all f kept x → rowOk r = true := by
 intro r hr
 unfold fallStep at hr
 split at hr
 ·
  rcases List.mem_or_eq_of_mem_set hr with h1 | rfl
  ·
   exact h r h1
  exact hx
 split at hr
 ·
  rcases List.mem_or_eq_of_mem_set hr with h1 | rfl
  ·
   exact h r h1
  refine tornRow_ok hx ?_
  rcases Nat.lt_or_ge x.At.toNat kept.length with h2 | h2
  ·
   rw [List.getElem?_eq_getElem h2]; exact h _ (List.getElem_mem h2)
  rw [List.getElem?_eq_none h2]; rfl
 exact h r hr
theorem diskOk_all {d : DDisk} (h : diskOk d = true) : (∀ r, r ∈ d.Kept → rowOk r = true) ∧ (∀ x, x ∈ d.Wait → rowOk x.Row = true) ∧ 1 ≤ d.Kept.length ∧ d.Kept.length ≤ 40 := by
 simp only [diskOk, Bool.and_eq_true, decide_eq_true_eq, List.all_eq_true] at h
 obtain ⟨⟨h0, h1, h2⟩, h3, h4⟩ := h
 exact ⟨h3, fun x hx => by have := h4 x hx; simp only [writeOk, Bool.and_eq_true] at this; exact this.2, h0, h1⟩
theorem fallK_rows {all : Bool} {fates : List Int} {d : DDisk} (h : diskOk d = true) (k : Nat) : ∀ r, r ∈ fallK all fates d k → rowOk r = true := by
 obtain ⟨h1, h2, _⟩ := diskOk_all h
 induction k with
 | zero => exact h1
 | succ k ih =>
  intro r hr
  unfold fallK at hr
  split at hr
  ·
   rename_i x hx
   exact fallStep_rows ih (h2 x (List.mem_of_getElem? hx)) r hr
  exact ih r hr
theorem fallenDisk_ok {all : Bool} {fates : List Int} {d : DDisk} (h : diskOk d = true) : diskOk (fallenDisk all fates d) = true ∧ (fallenDisk all fates d).Kept.length = d.Kept.length := by
 have e : fallenDisk all fates d = ⟨fallK all fates d d.Wait.length, []⟩ := by unfold fallenDisk; rw [if_pos h]
 obtain ⟨_, _, h3, h4⟩ := diskOk_all h
 rw [e]
 refine ⟨?_, fallK_len _ _ _ _⟩
 simp only [diskOk, Bool.and_eq_true, decide_eq_true_eq, List.all_eq_true]
 rw [fallK_len]
 exact ⟨⟨h3, h4, by simp⟩, fallK_rows h _, by simp⟩
theorem wrD_keep {d : DDisk} {a : Int} {r : List Int} (h : diskOk d = true) : diskOk (wrD d a r) = true ∧ (wrD d a r).Kept = d.Kept := by
 have e : wrD d a r = if wrOk d a r then ⟨d.Kept, d.Wait ++ [⟨a, r⟩]⟩ else d := by unfold wrD; rw [if_pos h]
 cases hw : wrOk d a r with
 | true => exact ⟨wrD_ok hw, by rw [e, hw]; rfl⟩
 | false => rw [e, hw]; exact ⟨h, rfl⟩
theorem swK_keep {d : DDisk} {slot : Int} {rows : List (List Int)} (h : diskOk d = true) : ∀ k, diskOk (swK d slot rows k) = true ∧ (swK d slot rows k).Kept = d.Kept
 | 0 => ⟨h, rfl⟩
 | k + 1 => by
  obtain ⟨h1, h2⟩ := swK_keep (slot := slot) (rows := rows) h k
  obtain ⟨h3, h4⟩ := wrD_keep (a := slot * 4 + (k : Int)) (r := rowK rows k) h1
  exact ⟨h3, h4.trans h2⟩
theorem shD_keep {d : DDisk} {slot : Int} {s : DShot} (h : shelfOk d = true) : shelfOk (shD d slot s) = true := by
 have h1 := shD_disk (slot := slot) (s := s) h
 have h2 : (shD d slot s).Kept = d.Kept := by
  unfold shD
  rw [if_pos h]
  split
  ·
   exact (swK_keep (shelfOk_disk h) _).2
  rfl
 simp only [shelfOk, Bool.and_eq_true, decide_eq_true_eq] at h ⊢
 exact ⟨h1, by rw [h2]; exact h.2⟩
theorem fallen_shelf {all : Bool} {fates : List Int} {d : DDisk} (h : shelfOk d = true) : shelfOk (fallenDisk all fates d) = true := by
 obtain ⟨h1, h2⟩ := fallenDisk_ok (all := all) (fates := fates) (shelfOk_disk h)
 simp only [shelfOk, Bool.and_eq_true, decide_eq_true_eq] at h ⊢
 exact ⟨h1, by rw [h2]; exact h.2⟩
theorem newDisk_ok {n : Int} (h : 1 ≤ n) (h2 : n ≤ 40) : diskOk (newDisk n) = true := by
 unfold newDisk
 rw [if_pos (inb_of h h2)]
 simp only [diskOk, Bool.and_eq_true, decide_eq_true_eq, List.all_eq_true, List.length_replicate]
 exact ⟨⟨by omega, by omega, by simp⟩, fun r hr => by obtain rfl := List.eq_of_mem_replicate hr; rfl, by simp⟩
theorem shelf_len {d : DDisk} (h : shelfOk d = true) : diskOk d = true ∧ d.Kept.length = 8 := by
 simp only [shelfOk, Bool.and_eq_true, decide_eq_true_eq] at h
 exact h
end Go.G8
namespace Go.Proofs.YtcnioiieiebodaaGreat
open Go.RowKit Go.G8
def KrDisk (B : Nat) (w : World) (v : Value) (d : DDisk) : Prop := ∀ w', Kp B boxTs w w' → RdDisk w' v d
section
variable {B B' : Nat} {w w' : World} {v : Value} {d : DDisk}
theorem IsDisk.kr (h : IsDisk B w v d) : KrDisk B w v d := fun _ x => (h.kp x).rd
theorem KrDisk.kp (h : KrDisk B w v d) (x : Kp B boxTs w w') : KrDisk B w' v d := fun _ y => h _ (x.trans y)
theorem KrDisk.rd (h : KrDisk B w v d) : RdDisk w v d := h _ (Kp.refl _ _ _)
theorem KrDisk.mono9 (h : KrDisk B w v d) (x : B' ≤ B) : KrDisk B' w v d := fun _ y => h _ (y.less x)
end
theorem IsDisk.mono9 {B B' : Nat} {w : World} {v : Value} {d : DDisk} (h : IsDisk B w v d) (x : B' ≤ B) : IsDisk B' w v d := let ⟨t0, t1, s0, s1, e, h0, h1, hd⟩ := h; ⟨t0, t1, s0, s1, e, h0.mono x, h1.mono x, hd⟩
theorem l18DrawShelf_c {B : Nat} {w : World} {g : Nat} (h : Cur B w g) : Calls Tryz.prog 141 #[.pointer (some ⟨g, 0, none⟩)] w (Dr B w g fun v w' => ∃ d : DDisk, IsDisk w.heap.size w' v d ∧ shelfOk d = true) := by
 have hc0 := h; have E0 : Upd w w [g] := Upd.refl _ _
 have hg0 := h.lt
 go_enter Tryz.func141, Tryz.ntmps141
 go_wp2_with fail
 refine (sNewShelf_c _).mono ?_
 rintro e w1 ⟨_, rfl, hx1, gD0⟩
 have hz1 := hx1.size; (try simp only [szA] at hz1)
 have E1 : Upd w w1 [g] := Upd.ext (by exact updT) hx1
 have hc1 : Cur B w1 g := Cur.ext (by exact curT) hx1
 have KR1 : Blk w1 w.heap.size 57 #[.slice none 0 0, .slice none 0 0] := Blk.ext bD hx1
 clear hx1
 obtain ⟨CR1, FR1, LR1⟩ := KR1.cfl
 obtain ⟨ad0, nd0, kd0, ad1, nd1, kd1, rfl⟩ := gD0.rd.shape
 have gD := IsDisk.mono9 (B' := w.heap.size) gD0 zT
 clear gD0
 go_wp2_with fail
 refine (l1Below_c (cU B) 5).mono ?_
 rintro e w2 ⟨_, rfl, X2, hc2, n, rfl, pn, qn, rn⟩
 have P2 : Kp w.heap.size boxTs w1 w2 := Kp.upd kpT X2 oM
 have gD := gD.kp P2
 clear P2
 have hz2 := X2.sz
 have E2 : Upd w w2 [g] := X2.up
 have KR2 := KR1.upv X2
 have KD2 : Blk w2 w1.heap.size 57 #[.slice ad0 nd0 kd0, .slice ad1 nd1 kd1] := bU X2
 clear X2
 clear CR1 FR1 LR1
 obtain ⟨CR2, FR2, LR2⟩ := KR2.cfl
 obtain ⟨CD2, FD2, LD2⟩ := KD2.cfl
 have qn := qn dC; clear rn
 obtain ⟨N, rfl⟩ := Int.eq_ofNat_of_zero_le pn
 go_wp2_with fail
 go_loopw [4, 5] (fun mm kk wr => ∃ (k : Nat) (nu : Int) (dd : DDisk) (ad0 : Option Addr) (nd0 kd0 : Nat) (ad1 : Option Addr) (nd1 kd1 : Nat), k ≤ 5 ∧ shelfOk dd = true ∧ kk = .int .i64 k ∧ mm = .int .i64 nu ∧ (0 ≤ nu ∧ nu ≤ 2 * (5 - k)) ∧ Upd w wr [g] ∧ Cur B wr g ∧ Blk wr w.heap.size 57 #[.slice none 0 0, .slice none 0 0] ∧ Blk wr w1.heap.size 57 #[.slice ad0 nd0 kd0, .slice ad1 nd1 kd1] ∧ IsDisk w.heap.size wr (.agg #[.slice ad0 nd0 kd0, .slice ad1 nd1 kd1]) dd) (fun _ kk _ => (intOf kk).toNat)
 case atStart => exact ⟨N, 0, _, ad0, nd0, kd0, ad1, nd1, kd1, by omega, dC, rfl, rfl, by omega, E2, hc2, KR2, KD2, gD⟩
 case round =>
  obtain ⟨k, nu, dd, ae0, ne0, ke0, ae1, ne1, ke1, hk, hsh, rfl, rfl, hnu, E3, hc3, KR3, KD3, gE⟩ := hrel
  obtain ⟨w3, hw⟩ : ∃ w3, w3 = wr := ⟨_, rfl⟩
  subst hw
  have hz3 := E3.size
  clear CR2 FR2 LR2 CD2 FD2 LD2
  obtain ⟨CR3, FR3, LR3⟩ := KR3.cfl
  obtain ⟨CD3, FD3, LD3⟩ := KD3.cfl
  have hl9 := KD3.lt
  by_cases hlt : 0 < k
  ·
   have hlt2 : (0 : Int) < (k : Int) := by omega
   go_wp2_with fail
   refine (l18Draw_c (cU B)).mono ?_
   rintro e w4 ⟨_, rfl, X4, hc4, s, hs⟩
   have P4 : Kp w.heap.size boxTs w3 w4 := Kp.upd kpT X4 oM
   have gE := gE.kp P4
   clear P4
   have hz4 := X4.sz
   have E4 : Upd w w4 [g] := X4.up
   have KR4 : Blk w4 w.heap.size 57 #[.slice none 0 0, .slice none 0 0] := bU X4
   have KD4 : Blk w4 w1.heap.size 57 #[.slice ae0 ne0 ke0, .slice ae1 ne1 ke1] := bU X4
   clear X4
   clear CR3 FR3 LR3 CD3 FD3 LD3
   obtain ⟨CR4, FR4, LR4⟩ := KR4.cfl
   obtain ⟨CD4, FD4, LD4⟩ := KD4.cfl
   replace hs := hs.mono (B' := w.heap.size) (by first | omega | (simp only [World.size_alloc]; omega))
   obtain ⟨t2, t3, rfl, h2, h3⟩ := hs
   obtain ⟨a2, n2, k2, rfl⟩ := h2.shape
   obtain ⟨a3, n3, k3, rfl⟩ := h3.shape
   have Op4 := h2; have Oj4 := h3; clear h2 h3
   go_wp2_with fail
   refine (l1Below_c (cU B) 2).mono ?_
   rintro e w5 ⟨_, rfl, X5, hc5, x, rfl, px, qx, rx⟩
   have P5 : Kp w.heap.size boxTs w4 w5 := Kp.upd kpT X5 oM
   have gE := gE.kp P5
   clear P5
   have hz5 := X5.sz
   have E5 : Upd w w5 [g] := X5.up
   have KR5 := KR4.upv X5
   have KD5 := KD4.upv X5
   have KH5 : Blk w5 w4.heap.size 208 #[.int .i64 s.Num, .int .i64 s.State.Index, .int .i64 s.State.Time, .slice a2 n2 k2, .slice a3 n3 k3, .int .i64 s.State.Lease.Holder, .int .i64 s.State.Lease.Epoch, .int .i64 s.State.Lease.Until] := bU X5
   have Op5 : OwnI w.heap.size 157 2 w5 (.slice a2 n2 k2) (flPair s.State.Pairs) := OwnI.drawn (ow_ex0x1n Op4 KR4 KD4) X5 oM
   have Oj5 : OwnI w.heap.size 142 5 w5 (.slice a3 n3 k3) (flJob s.State.Jobs) := OwnI.drawn (ow_ex0x1n Oj4 KR4 KD4) X5 oM
   clear X5
   clear CR4 FR4 LR4 CD4 FD4 LD4
   obtain ⟨CR5, FR5, LR5⟩ := KR5.cfl
   obtain ⟨CD5, FD5, LD5⟩ := KD5.cfl
   obtain ⟨CH5, FH5, LH5⟩ := KH5.cfl
   have qx := qx dC; clear rx
   obtain ⟨nv, hnv⟩ : ∃ nv : Int, nu + 1 + x = nv := ⟨_, rfl⟩
   go_upto_region 9 with (fail)
   go_cut [] (fun wx => ∃ de : DDisk, ∃ ag0 : Option Addr, ∃ ng0 : Nat, ∃ kg0 : Nat, ∃ ag1 : Option Addr, ∃ ng1 : Nat, ∃ kg1 : Nat, shelfOk de = true ∧ IsDisk w.heap.size wx (.agg #[.slice ag0 ng0 kg0, .slice ag1 ng1 kg1]) de ∧ Blk wx w1.heap.size 57 #[.slice ag0 ng0 kg0, .slice ag1 ng1 kg1] ∧ Upd w wx [g] ∧ Cur B wx g ∧ Blk wx w.heap.size 57 #[.slice none 0 0, .slice none 0 0] ∧ Blk wx w4.heap.size 208 #[.int .i64 nv, .int .i64 s.State.Index, .int .i64 s.State.Time, .slice a2 n2 k2, .slice a3 n3 k3, .int .i64 s.State.Lease.Holder, .int .i64 s.State.Lease.Epoch, .int .i64 s.State.Lease.Until] ∧ OwnI w.heap.size 157 2 wx (.slice a2 n2 k2) (flPair s.State.Pairs) ∧ OwnI w.heap.size 142 5 wx (.slice a3 n3 k3) (flJob s.State.Jobs))
   case first =>
    refine wp_region_held_drew (S := fun w' => Upd w w' [g] ∧ Cur B w' g ∧ Blk w' w4.heap.size 208 #[.int .i64 nv, .int .i64 s.State.Index, .int .i64 s.State.Time, .slice a2 n2 k2, .slice a3 n3 k3, .int .i64 s.State.Lease.Holder, .int .i64 s.State.Lease.Epoch, .int .i64 s.State.Lease.Until]) (by kernel_rfl) (by (try dsimp only); exact ⟨(by exact updT), (by exact curT), bC⟩) (fun hHeld => ?_)
    refine wt 1 ?_
    (try simp only [redA, Act.put])
    refine wtq 3 (fun _ h => h.2.2.cell) ?_
    (try simp only [redA, Act.put])
    refine wr2 0 2 (fun Kz hKz => ?_) fun Kz hKz => ?_
    ·
     (try simp only [redA])
     go_simp
     refine hKz.o3 fun hHeld => ?_
     clear hKz Kz
     (try simp only [redA, Act.put])
     refine wr1 2 fun Kz hKz => ?_
     (try simp only [redA])
     go_simp
     go_at_call 30
     refine (l1Below_c (cU B) 2).mono ?_
     rintro e w6 ⟨_, rfl, X6, hc6, y, rfl, py, qy, ry⟩
     have P6 : Kp w.heap.size boxTs w5 w6 := Kp.upd kpT X6 oM
     have gE := gE.kp P6
     clear P6
     have hz6 := X6.sz
     have E6 : Upd w w6 [g] := X6.up
     have KR6 := KR5.upv X6
     have KH6 : Blk w6 w4.heap.size 208 #[.int .i64 nv, .int .i64 s.State.Index, .int .i64 s.State.Time, .slice a2 n2 k2, .slice a3 n3 k3, .int .i64 s.State.Lease.Holder, .int .i64 s.State.Lease.Epoch, .int .i64 s.State.Lease.Until] := bU X6
     have KD6 := KD5.upv X6
     have Op6 := OwnI.drawn (ow_ex0x1x2n Op5 KR5 KD5 KH5) X6 oM
     have Oj6 := OwnI.drawn (ow_ex0x1x2n Oj5 KR5 KD5 KH5) X6 oM
     clear X6
     clear CR5 FR5 LR5 CD5 FD5 LD5 CH5 FH5 LH5
     obtain ⟨CR6, FR6, LR6⟩ := KR6.cfl
     obtain ⟨CH6, FH6, LH6⟩ := KH6.cfl
     obtain ⟨CD6, FD6, LD6⟩ := KD6.cfl
     refine hKz.o3 fun hHeld => ?_
     clear hKz Kz
     (try simp only [redA, Act.put])
     refine wr1 4 fun Kz hKz => ?_
     (try simp only [redA])
     go_simp
     go_at_call 182
     refine (sShotWrote_k (gE.rd.ext (by exact extT)) (s := ⟨nv, s.State⟩) ⟨_, _, rfl, (OwnI.ints (show OwnI w.heap.size 157 2 _ (.slice a2 n2 k2) (flPair s.State.Pairs) from by exact ownT)), (OwnI.ints (show OwnI w.heap.size 142 5 _ (.slice a3 n3 k3) (flJob s.State.Jobs) from by exact ownT))⟩ _).mono ?_
     rintro e w7 ⟨_, rfl, hx7, vd, rfl, FD, gd⟩
     have P7 : Kp w.heap.size boxTs w6 w7 := Kp.ext kpT hx7
     have gE := gE.kp P7
     clear P7
     have hz7 := hx7.size; (try simp only [szA] at hz7)
     have E7 : Upd w w7 [g] := Upd.ext (by exact updT) hx7
     have hc7 : Cur B w7 g := Cur.ext (by exact curT) hx7
     have KR7 := KR6.exv hx7
     have KH7 := KH6.exv hx7
     have KD7 := KD6.exv hx7
     have Op7 := OwnI.ext1 (ow_ex0x1x2n Op6 KR6 KD6 KH6) hx7
     have Oj7 := OwnI.ext1 (ow_ex0x1x2n Oj6 KR6 KD6 KH6) hx7
     clear hx7
     clear CR6 FR6 LR6 CH6 FH6 LH6 CD6 FD6 LD6
     obtain ⟨CR7, FR7, LR7⟩ := KR7.cfl
     obtain ⟨CH7, FH7, LH7⟩ := KH7.cfl
     obtain ⟨CD7, FD7, LD7⟩ := KD7.cfl
     obtain ⟨af0, nf0, kf0, af1, nf1, kf1, rfl⟩ := gd.rd.shape
     refine hKz.o3 fun hHeld => ?_
     clear hKz Kz
     (try simp only [redA, Act.put])
     refine wt 5 ?_
     (try simp only [redA, Act.put])
     refine wt 6 ?_
     (try simp only [redA, Act.put])
     refine wt 7 ?_
     (try simp only [redA, Act.put])
     refine wr1 8 fun Kz hKz => ?_
     (try simp only [redA])
     go_simp
     refine hKz.o3 fun hHeld => ?_
     clear hKz Kz
     (try simp only [redA, Act.put])
     refine wpAnyH_done (by kernel_rfl) ?_ _
     have gF := IsDisk.mono9 (B' := w.heap.size) gd.is zT
     go_wp2_with fail
     go_meet
     case rel => exact ⟨_, _, _, _, _, _, _, shD_keep hsh, gF.kp kpT, bC, (by exact updT), (by exact curT), bC, bC, (ow_edx0x1x2 Op7 KR7 KD7 KH7), (ow_edx0x1x2 Oj7 KR7 KD7 KH7)⟩
    (try simp only [redA])
    go_simp
    go_at_call 30
    refine (l1Below_c (cU B) 2).mono ?_
    rintro e w6 ⟨_, rfl, X6, hc6, y, rfl, py, qy, ry⟩
    have P6 : Kp w.heap.size boxTs w5 w6 := Kp.upd kpT X6 oM
    have gE := gE.kp P6
    clear P6
    have hz6 := X6.sz
    have E6 : Upd w w6 [g] := X6.up
    have KR6 := KR5.upv X6
    have KH6 : Blk w6 w4.heap.size 208 #[.int .i64 nv, .int .i64 s.State.Index, .int .i64 s.State.Time, .slice a2 n2 k2, .slice a3 n3 k3, .int .i64 s.State.Lease.Holder, .int .i64 s.State.Lease.Epoch, .int .i64 s.State.Lease.Until] := bU X6
    have KD6 := KD5.upv X6
    have Op6 := OwnI.drawn (ow_ex0x1x2n Op5 KR5 KD5 KH5) X6 oM
    have Oj6 := OwnI.drawn (ow_ex0x1x2n Oj5 KR5 KD5 KH5) X6 oM
    clear X6
    clear CR5 FR5 LR5 CD5 FD5 LD5 CH5 FH5 LH5
    obtain ⟨CR6, FR6, LR6⟩ := KR6.cfl
    obtain ⟨CH6, FH6, LH6⟩ := KH6.cfl
    obtain ⟨CD6, FD6, LD6⟩ := KD6.cfl
    refine hKz.o3 fun hHeld => ?_
    clear hKz Kz
    (try simp only [redA, Act.put])
    refine wr1 0 fun Kz hKz => ?_
    (try simp only [redA])
    go_simp
    refine hKz.o3 fun hHeld => ?_
    clear hKz Kz
    (try simp only [redA, Act.put])
    refine wr1 4 fun Kz hKz => ?_
    (try simp only [redA])
    go_simp
    go_at_call 182
    refine (sShotWrote_k (gE.rd.ext (by exact extT)) (s := ⟨nv, s.State⟩) ⟨_, _, rfl, (OwnI.ints (show OwnI w.heap.size 157 2 _ (.slice a2 n2 k2) (flPair s.State.Pairs) from by exact ownT)), (OwnI.ints (show OwnI w.heap.size 142 5 _ (.slice a3 n3 k3) (flJob s.State.Jobs) from by exact ownT))⟩ _).mono ?_
    rintro e w7 ⟨_, rfl, hx7, vd, rfl, FD, gd⟩
    have P7 : Kp w.heap.size boxTs w6 w7 := Kp.ext kpT hx7
    have gE := gE.kp P7
    clear P7
    have hz7 := hx7.size; (try simp only [szA] at hz7)
    have E7 : Upd w w7 [g] := Upd.ext (by exact updT) hx7
    have hc7 : Cur B w7 g := Cur.ext (by exact curT) hx7
    have KR7 := KR6.exv hx7
    have KH7 := KH6.exv hx7
    have KD7 := KD6.exv hx7
    have Op7 := OwnI.ext1 (ow_ex0x1x2n Op6 KR6 KD6 KH6) hx7
    have Oj7 := OwnI.ext1 (ow_ex0x1x2n Oj6 KR6 KD6 KH6) hx7
    clear hx7
    clear CR6 FR6 LR6 CH6 FH6 LH6 CD6 FD6 LD6
    obtain ⟨CR7, FR7, LR7⟩ := KR7.cfl
    obtain ⟨CH7, FH7, LH7⟩ := KH7.cfl
    obtain ⟨CD7, FD7, LD7⟩ := KD7.cfl
    obtain ⟨af0, nf0, kf0, af1, nf1, kf1, rfl⟩ := gd.rd.shape
    refine hKz.o3 fun hHeld => ?_
    clear hKz Kz
    (try simp only [redA, Act.put])
    refine wt 5 ?_
    (try simp only [redA, Act.put])
    refine wt 6 ?_
    (try simp only [redA, Act.put])
    refine wt 7 ?_
    (try simp only [redA, Act.put])
    refine wr1 8 fun Kz hKz => ?_
    (try simp only [redA])
    go_simp
    refine hKz.o3 fun hHeld => ?_
    clear hKz Kz
    (try simp only [redA, Act.put])
    refine wpAnyH_done (by kernel_rfl) ?_ _
    have gF := IsDisk.mono9 (B' := w.heap.size) gd.is zT
    go_wp2_with fail
    go_meet
    case rel => exact ⟨_, _, _, _, _, _, _, shD_keep hsh, gF.kp kpT, bC, (by exact updT), (by exact curT), bC, bC, (ow_edx0x1x2 Op7 KR7 KD7 KH7), (ow_edx0x1x2 Oj7 KR7 KD7 KH7)⟩
   revert wc; intro w6 hcut
   obtain ⟨de, ag0, ng0, kg0, ag1, ng1, kg1, hde, gG, KD6, E6, hc6, KR6, KH6, Op6, Oj6⟩ := hcut
   have hz6 := E6.size
   clear CR5 FR5 LR5 CD5 FD5 LD5 CH5 FH5 LH5
   obtain ⟨CR6, FR6, LR6⟩ := KR6.cfl
   obtain ⟨CH6, FH6, LH6⟩ := KH6.cfl
   obtain ⟨CD6, FD6, LD6⟩ := KD6.cfl
   go_wp2_with fail
   refine (l1Below_c (cU B) 4).mono ?_
   rintro e w7 ⟨_, rfl, X7, hc7, m, rfl, pm, qm, rm⟩
   have P7 : Kp w.heap.size boxTs w6 w7 := Kp.upd kpT X7 oM
   have gG := gG.kp P7
   clear P7
   have hz7 := X7.sz
   have E7 : Upd w w7 [g] := X7.up
   have KR7 : Blk w7 w.heap.size 57 #[.slice none 0 0, .slice none 0 0] := bU X7
   have KH7 : Blk w7 w4.heap.size 208 #[.int .i64 nv, .int .i64 s.State.Index, .int .i64 s.State.Time, .slice a2 n2 k2, .slice a3 n3 k3, .int .i64 s.State.Lease.Holder, .int .i64 s.State.Lease.Epoch, .int .i64 s.State.Lease.Until] := bU X7
   have KD7 : Blk w7 w1.heap.size 57 #[.slice ag0 ng0 kg0, .slice ag1 ng1 kg1] := bU X7
   clear X7
   clear CR6 FR6 LR6 CH6 FH6 LH6 CD6 FD6 LD6
   obtain ⟨CR7, FR7, LR7⟩ := KR7.cfl
   obtain ⟨CH7, FH7, LH7⟩ := KH7.cfl
   obtain ⟨CD7, FD7, LD7⟩ := KD7.cfl
   have qm := qm dC; clear rm
   obtain hway | hway | hway : (m = 0 ∨ m = 1) ∨ (m = 2) ∨ m ≥ 3 := by omega
   ·
    obtain rfl | rfl := hway
    all_goals
     go_wp2_with fail
     refine (sSynced_c _ _ _ _ _ (RdDisk.get (gG.rd.ext (by exact extT))).1 (RdDisk.get (gG.rd.ext (by exact extT))).2).mono ?_
     rintro e w8 ⟨_, rfl, hx8, gY⟩
     have P8 : Kp w.heap.size boxTs w7 w8 := Kp.ext kpT hx8
     have gG := gG.kp P8
     clear P8
     have hz8 := hx8.size; (try simp only [szA] at hz8)
     have E8 : Upd w w8 [g] := Upd.ext (by exact updT) hx8
     have hc8 : Cur B w8 g := Cur.ext (by exact curT) hx8
     have KR8 := KR7.exv hx8
     have KH8 := KH7.exv hx8
     have KD8 := KD7.exv hx8
     clear hx8
     clear CR7 FR7 LR7 CH7 FH7 LH7 CD7 FD7 LD7
     obtain ⟨CR8, FR8, LR8⟩ := KR8.cfl
     obtain ⟨CH8, FH8, LH8⟩ := KH8.cfl
     obtain ⟨CD8, FD8, LD8⟩ := KD8.cfl
     obtain ⟨az0, nz0, kz0, az1, nz1, kz1, rfl⟩ := gY.rd.shape
     have gZ := IsDisk.mono9 (B' := w.heap.size) gY zT
     clear gY
     go_wp2_with fail
     go_roundw
     case rel => exact ⟨k - 1, nv, _, az0, nz0, kz0, az1, nz1, kz1, by omega, fallen_shelf hde, by (try simp only [Value.int.injEq, true_and]); first | omega | (congr 1; omega), by first | rfl | (congr 1; omega), by omega, by exact updT, by exact curT, bC, bC, gZ.kp kpT⟩
     case measure => simp [intOf]; omega
   ·
    obtain rfl := hway
    go_wp2_with fail
    refine wh (S := fun w' => Upd w w' [g] ∧ Cur B w' g) fun hHeld => ?_
    refine wt 1 ?_
    (try simp only [redA, Act.put])
    refine wr2 0 2 (fun Kz hKz => ?_) fun Kz hKz => ?_
    ·
     (try simp only [redA])
     go_simp
     refine hKz.o2 fun hHeld => ?_
     clear hKz Kz
     (try simp only [redA, Act.put])
     refine wr1 2 fun Kz hKz => ?_
     (try simp only [redA])
     go_simp
     go_at_call 178
     refine (l3DrawFates_c (cU B)).mono ?_
     rintro e w8 ⟨_, rfl, X8, hc8, fl, Of, hf⟩
     have P8 : Kp w.heap.size boxTs w7 w8 := Kp.upd kpT X8 oM
     have gG := gG.kp P8
     clear P8
     have hz8 := X8.sz
     have E8 : Upd w w8 [g] := X8.up
     have KR8 := KR7.upv X8
     have KH8 := KH7.upv X8
     have KD8 := KD7.upv X8
     clear X8
     clear CR7 FR7 LR7 CH7 FH7 LH7 CD7 FD7 LD7
     obtain ⟨CR8, FR8, LR8⟩ := KR8.cfl
     obtain ⟨CH8, FH8, LH8⟩ := KH8.cfl
     obtain ⟨CD8, FD8, LD8⟩ := KD8.cfl
     obtain ⟨aq, nq, kq, rfl⟩ := Of.shape
     refine hKz.o2 fun hHeld => ?_
     clear hKz Kz
     (try simp only [redA, Act.put])
     refine wr1 3 fun Kz hKz => ?_
     (try simp only [redA])
     go_simp
     go_at_call 184
     refine (sFallen_r (gG.rd.ext (by exact extT)) (Of.ints.ext (by exact extT))).mono ?_
     rintro e w9 ⟨_, rfl, hx9, gY⟩
     have P9 : Kp w.heap.size boxTs w8 w9 := Kp.ext kpT hx9
     have gG := gG.kp P9
     clear P9
     have hz9 := hx9.size; (try simp only [szA] at hz9)
     have E9 : Upd w w9 [g] := Upd.ext (by exact updT) hx9
     have hc9 : Cur B w9 g := Cur.ext (by exact curT) hx9
     have KR9 := KR8.exv hx9
     have KH9 := KH8.exv hx9
     have KD9 := KD8.exv hx9
     clear hx9
     clear CR8 FR8 LR8 CH8 FH8 LH8 CD8 FD8 LD8
     obtain ⟨CR9, FR9, LR9⟩ := KR9.cfl
     obtain ⟨CH9, FH9, LH9⟩ := KH9.cfl
     obtain ⟨CD9, FD9, LD9⟩ := KD9.cfl
     obtain ⟨az0, nz0, kz0, az1, nz1, kz1, rfl⟩ := gY.rd.shape
     have gZ := IsDisk.mono9 (B' := w.heap.size) gY zT
     clear gY
     refine hKz.o2 fun hHeld => ?_
     clear hKz Kz
     (try simp only [redA, Act.put])
     refine wr1 4 fun Kz hKz => ?_
     (try simp only [redA])
     go_simp
     refine hKz.o2 fun hHeld => ?_
     clear hKz Kz
     (try simp only [redA, Act.put])
     refine wpAnyH_done (by kernel_rfl) ?_ _
     go_wp2_with fail
     go_roundw
     case rel => exact ⟨k - 1, nv, _, az0, nz0, kz0, az1, nz1, kz1, by omega, fallen_shelf hde, by (try simp only [Value.int.injEq, true_and]); first | omega | (congr 1; omega), by first | rfl | (congr 1; omega), by omega, by exact updT, by exact curT, bC, bC, gZ.kp kpT⟩
     case measure => simp [intOf]; omega
    (try simp only [redA])
    go_simp
    go_at_call 178
    refine (l3DrawFates_c (cU B)).mono ?_
    rintro e w8 ⟨_, rfl, X8, hc8, fl, Of, hf⟩
    have P8 : Kp w.heap.size boxTs w7 w8 := Kp.upd kpT X8 oM
    have gG := gG.kp P8
    clear P8
    have hz8 := X8.sz
    have E8 : Upd w w8 [g] := X8.up
    have KR8 := KR7.upv X8
    have KH8 := KH7.upv X8
    have KD8 := KD7.upv X8
    clear X8
    clear CR7 FR7 LR7 CH7 FH7 LH7 CD7 FD7 LD7
    obtain ⟨CR8, FR8, LR8⟩ := KR8.cfl
    obtain ⟨CH8, FH8, LH8⟩ := KH8.cfl
    obtain ⟨CD8, FD8, LD8⟩ := KD8.cfl
    obtain ⟨aq, nq, kq, rfl⟩ := Of.shape
    refine hKz.o2 fun hHeld => ?_
    clear hKz Kz
    (try simp only [redA, Act.put])
    refine wr1 0 fun Kz hKz => ?_
    (try simp only [redA])
    go_simp
    refine hKz.o2 fun hHeld => ?_
    clear hKz Kz
    (try simp only [redA, Act.put])
    refine wr1 3 fun Kz hKz => ?_
    (try simp only [redA])
    go_simp
    go_at_call 184
    refine (sFallen_r (gG.rd.ext (by exact extT)) (Of.ints.ext (by exact extT))).mono ?_
    rintro e w9 ⟨_, rfl, hx9, gY⟩
    have P9 : Kp w.heap.size boxTs w8 w9 := Kp.ext kpT hx9
    have gG := gG.kp P9
    clear P9
    have hz9 := hx9.size; (try simp only [szA] at hz9)
    have E9 : Upd w w9 [g] := Upd.ext (by exact updT) hx9
    have hc9 : Cur B w9 g := Cur.ext (by exact curT) hx9
    have KR9 := KR8.exv hx9
    have KH9 := KH8.exv hx9
    have KD9 := KD8.exv hx9
    clear hx9
    clear CR8 FR8 LR8 CH8 FH8 LH8 CD8 FD8 LD8
    obtain ⟨CR9, FR9, LR9⟩ := KR9.cfl
    obtain ⟨CH9, FH9, LH9⟩ := KH9.cfl
    obtain ⟨CD9, FD9, LD9⟩ := KD9.cfl
    obtain ⟨az0, nz0, kz0, az1, nz1, kz1, rfl⟩ := gY.rd.shape
    have gZ := IsDisk.mono9 (B' := w.heap.size) gY zT
    clear gY
    refine hKz.o2 fun hHeld => ?_
    clear hKz Kz
    (try simp only [redA, Act.put])
    refine wr1 4 fun Kz hKz => ?_
    (try simp only [redA])
    go_simp
    refine hKz.o2 fun hHeld => ?_
    clear hKz Kz
    (try simp only [redA, Act.put])
    refine wpAnyH_done (by kernel_rfl) ?_ _
    go_wp2_with fail
    go_roundw
    case rel => exact ⟨k - 1, nv, _, az0, nz0, kz0, az1, nz1, kz1, by omega, fallen_shelf hde, by (try simp only [Value.int.injEq, true_and]); first | omega | (congr 1; omega), by first | rfl | (congr 1; omega), by omega, by exact updT, by exact curT, bC, bC, gZ.kp kpT⟩
    case measure => simp [intOf]; omega
   have hb0 : (m == 0) = false := by simp; omega
   have hb1 : (m == 1) = false := by simp; omega
   have hb2 : (m == 2) = false := by simp; omega
   go_wp2_with fail
   go_roundw
   case rel => exact ⟨k - 1, nv, de, ag0, ng0, kg0, ag1, ng1, kg1, by omega, hde, by (try simp only [Value.int.injEq, true_and]); first | omega | (congr 1; omega), by first | rfl | (congr 1; omega), by omega, by exact updT, by exact curT, bC, bC, gG.kp kpT⟩
   case measure => simp [intOf]; omega
  obtain rfl : k = 0 := by omega
  go_wp2_with fail
  refine bodyPost_ret (by simp [results, Tryz.results141, go_sem, CR3, FR3, LR3, CD3, FD3, LD3]; try rfl) rfl ?_
  exact ⟨_, rfl, by exact updT, by exact curT, dd, gE.kp kpT, hsh⟩
end Go.Proofs.YtcnioiieiebodaaGreat
