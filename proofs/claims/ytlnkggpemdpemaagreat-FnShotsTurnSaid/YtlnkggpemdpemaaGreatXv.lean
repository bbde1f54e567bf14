/- Contracts and plain laws: W9 OwR. -/
import Derived.Test.YtlnkggpemdpemaaGreatXj
import Derived.Test.YtlnkggpemdpemaaGreatXd
import Derived.Test.YtlnkggpemdpemaaGreatYl
import Derived.Test.YtlnkggpemdpemaaGreatYa
import Derived.Test.YtlnkggpemdpemaaGreatYe
set_option linter.unusedSimpArgs false
set_option linter.unusedVariables false
set_option maxHeartbeats 8000000
set_option maxRecDepth 100000
namespace Go.Proofs.YtlnkggpemdpemaaGreat
open Go.RowKit Go.G8
theorem w6Fates_c {B : Nat} {w : World} {g : Nat} (h : Die B w g) : Calls Tryz.prog 26 #[.pointer (some ⟨g, 0, none⟩)] w (Dd B w g fun v w' => ∃ l : List Int, OwnI w.heap.size 2 1 w' v l ∧ l.length ≤ 6) := by
 obtain ⟨i0, hi, hy0, hy1, hy2⟩ := info_parts info_Int64
 have hc0 := h; have E0 : Upd w w [g] := Upd.refl _ _
 have hg0 := h.lt
 go_enter Tryz.func26, Tryz.ntmps26
 have Ol0 : OwnI w.heap.size 2 1 (w.alloc (.cells #[] 2)) (.slice (some ⟨w.heap.size, 0, none⟩) 0 0) [] := OwnI.lit0 w _ _
 go_wp2_with fail
 refine (below_c (show Die B _ g from by exact dieT) 6 oM).mono ?_
 rintro e w1 ⟨_, rfl, X1, hc1, n, rfl, pn, qn⟩
 have hz1 := X1.sz
 have E1 : Upd w w1 [g] := X1.up
 have Ol1 : OwnI w.heap.size 2 1 w1 (.slice (some ⟨w.heap.size, 0, none⟩) 0 0) [] := OwnI.drawn (by exact ownT) X1 oM
 clear X1
 obtain ⟨N, rfl⟩ := Int.eq_ofNat_of_zero_le pn
 go_wp2_with fail
 go_loopw [3, 4] (fun out kk wr => ∃ (k : Nat) (l : List Int), k ≤ 6 ∧ kk = .int .i64 k ∧ l.length + k ≤ 6 ∧ Upd w wr [g] ∧ Die B wr g ∧ OwnI w.heap.size 2 1 wr out l) (fun _ kk _ => (intOf kk).toNat)
 case atStart => exact ⟨N, [], by omega, rfl, by simp; omega, E1, hc1, Ol1⟩
 case round =>
  obtain ⟨k, l, hk, rfl, hl, E2, hc2, Ol2⟩ := hrel
  obtain ⟨w2, hw⟩ : ∃ w2, w2 = wr := ⟨_, rfl⟩
  subst hw
  have hz2 := E2.size
  obtain ⟨a0, n0, c0, rfl⟩ := Ol2.shape
  by_cases hlt : 0 < k
  ·
   have hlt2 : (0 : Int) < (k : Int) := by omega
   go_wp2_with fail
   refine (below_c (show Die B _ g from by exact dieT) 3 oM).mono ?_
   rintro e w3 ⟨_, rfl, X3, hc3, x, rfl, px, qx⟩
   have hz3 := X3.sz
   have E3 : Upd w w3 [g] := X3.up
   have Ol3 : OwnI w.heap.size 2 1 w3 (.slice a0 n0 c0) l := OwnI.drawn (by exact ownT) X3 oM
   clear X3
   have OO : OwnI w.heap.size 2 1 (w3.alloc (.cells #[.int .i64 x] 2)) (.slice a0 n0 c0) l := OwnI.ext1 Ol3 ((Ext.refl _).alloc _)
   go_wp2_with (first | (at_builtin; go_loud (refine wp_appendU rfl _ _ 49 rfl 2 i0 _ 1 8 Tryz.underlying49 hi hy0 hy1 hy2 rfl dC w.heap.size _ _ rfl OO _ [x] rfl (Sl.oneAt _ #[.int .i64 x] _ 1 _ (by first | rfl | simp) rfl) 1000 (by simp only [List.length_cons, List.length_nil]; omega) oM oM (by simp only [World.size_alloc]; omega) ?_; rotate_right; intro vv w4 On h3)))
   obtain ⟨b0, m0, q0, rfl⟩ := On.shape
   have Ol4 : OwnI w.heap.size 2 1 w4 (.slice b0 m0 q0) (l ++ [x]) := by exact On
   have hz4 := h3.size; (try simp only [World.size_alloc] at hz4)
   have E4 : Upd w w4 [g] := Upd.app (by exact updT) OO (.inr oM) h3
   have hc4 : Die B w4 g := Die.app (by exact dieT) OO oM h3
   clear OO h3 On
   go_wp2_with fail
   go_roundw
   case rel => exact ⟨k - 1, l ++ [x], by omega, by (try simp only [Value.int.injEq, true_and]); first | omega | (congr 1; omega), by simp; omega, E4, hc4, Ol4⟩
   case measure => simp [intOf]; omega
  obtain rfl : k = 0 := by omega
  go_wp2_with fail
  go_ret
  exact ⟨_, rfl, by exact updT, by exact dieT, l, Ol2, by omega⟩
theorem w6Copy_c (w : World) (v : Value) (l : List DEntry) (h : Ints 9 w v (flEntry l)) (e0 : l.length ≤ 1000000) : Calls Tryz.prog 21 #[v] w (Ret w fun r w' => OwnI w.heap.size 54 9 w' r (flEntry l)) := by
 obtain ⟨a0, n0, k0, rfl⟩ := h.shape
 obtain ⟨i0, hi, hz0, hz1, hz2⟩ := info_parts info_Entry
 go_enter Tryz.func21, Tryz.ntmps21
 go_wp2_with (first | (at_builtin; refine wp_append_fresh rfl (.tmp 3) (.tmp 4) 27 rfl 54 i0 _ 9 72 Tryz.underlying27 hi hz0 hz1 hz2 rfl dC w.heap.size (by simp) rfl (.slice a0 n0 k0) ((flEntry l).map (.int .i64)) rfl h (ints_oneCell _ _) 1000000 (by have := length_flEntry l; simp; omega) (by unfold maxLen; omega) oM ?_; rotate_right; intro t5 w1 g5 hx1; obtain ⟨ta5, tn5, tc5, rfl⟩ := g5.sl.shape))
 go_ret
 exact ⟨_, rfl, hx1, g5⟩
theorem newStore_s (w : World) : Calls Tryz.prog 18 #[] w (Ret w fun v w' => IsStore w.heap.size w' v newSt9) := by
 refine (newStore_c w).mono ?_
 rintro e w' ⟨v, rfl, hx, t0, t1, s0, s1, rfl, h0, h1, hd⟩
 exact ⟨_, rfl, hx, _, t0, t1, _, _, s0, s1, rfl, h0, h1, OwnI.nil _ _ _ _, OwnI.nil _ _ _ _, hd, rfl⟩
theorem fetchOf_k {w : World} {v : Value} {s : DStore} (h : RdStore w v s) (ho : storeOk s = true) : Calls Tryz.prog 19 #[v] w (RetV w (.int .i64 (s.State.Index + 1))) := by
 obtain ⟨t0, t1, t4, t5, rfl, h0, h1, h4, h5⟩ := h
 have e : fetchOf s = s.State.Index + 1 := by unfold fetchOf; rw [if_pos ho]
 rw [← e]
 exact fetchOf_c w t0 s.Disk.Kept t1 s.Disk.Wait _ _ t4 s.State.Pairs t5 s.State.Jobs _ _ _ _ _ _ h0 h1 h4 h5
end Go.Proofs.YtlnkggpemdpemaaGreat
namespace Go.G8
open Go.RowKit
theorem OwnI.boxQ {B : Nat} {e : TypeId} {n : Nat} {w : World} {v : Value} {xs : List Int} (h : OwnI B e n w v xs) {X : Nat} {t : TypeId} {a : Array Value} (hX : Blk w X t a) (h1 : t ≠ e) (i : Nat) (u : Value) : OwnI B e n (w.setCell ⟨X, i, none⟩ u) v xs :=
 OwnI.upd' h ((Upd.refl w [X]).setCell (by simp) _) (fun k hk hf => by
  obtain ⟨cur, hb⟩ := h.typed hk
  simp at hf; subst hf
  exact h1 (hX.same hb))
theorem OwnI.drewQ {B : Nat} {e : TypeId} {n : Nat} {w : World} {v : Value} {xs : List Int} (h : OwnI B e n w v xs) : OwnI B e n w.drew v xs := Own.ext h (Ext.drew (Ext.refl _))
theorem OwnI.drewNQ {B : Nat} {e : TypeId} {n : Nat} {w : World} {v : Value} {xs : List Int} (h : OwnI B e n w v xs) (k : Nat) : OwnI B e n (w.drewN k) v xs := Own.ext h (Ext.drewN (Ext.refl _) _)
theorem OwnI.allocQ {B : Nat} {e : TypeId} {n : Nat} {w : World} {v : Value} {xs : List Int} (h : OwnI B e n w v xs) (o : Obj) : OwnI B e n (w.alloc o) v xs := Own.ext h ((Ext.refl _).alloc _)
theorem OwnI.rowQ {B : Nat} {e : TypeId} {n : Nat} {w : World} {v : Value} {xs : List Int} (h : OwnI B e n w v xs) {X : Nat} {t : TypeId} {a : Array Value} (hX : Blk w X t a) (h1 : t ≠ e) (cs : Array Value) : OwnI B e n (w.setRow X cs) v xs :=
 OwnI.upd' h (fs := [X]) ⟨rfl, rfl, rfl, by rw [size_setRow]; exact Nat.le_refl _, fun k _ hn => heap_setRow_ne w cs (fun e => hn (by simp [e]))⟩ (fun k hk hf => by
  obtain ⟨cur, hb⟩ := h.typed hk
  simp at hf; subst hf
  exact h1 (hX.same hb))
theorem ownR {B : Nat} {e : TypeId} {n : Nat} {w : World} {v : Value} {xs : List Int} (h : OwnI B e n w v xs := by ((repeat' (first | (with_reducible assumption) | (with_reducible refine OwnI.drewQ ?_) | (with_reducible refine OwnI.drewNQ ?_ _) | (with_reducible refine OwnI.allocQ ?_ _) | (with_reducible refine OwnI.boxQ ?_ blkT dC _ _) | (with_reducible refine OwnI.rowQ ?_ blkT dC _))); first | done | fail)) : OwnI B e n w v xs := h
end Go.G8
