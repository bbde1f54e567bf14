/- New stores. -/
import Derived.Test.YtankkbjlneeolaaS4
import Derived.Test.YtankkbjlneeolaaHelpF
namespace Go.Proofs.Ytankkbjlneeolaa
open Go.RowKit Go.G8

set_option maxHeartbeats 1600000 in
set_option maxRecDepth 100000 in
theorem markStore_c (w : World) (B : Nat) (s0 : Value) (d0 : List NRow) (ss0 : List Value) (s1 : Value) (d1 : List NRow) (ss1 : List Value) (c2 c3 : Int) (s4 : Value) (d4 : List Int) (L4 : Nat) (hL4 : d4.length = L4 * 2) (s5 : Value) (d5 : List Int) (L5 : Nat) (hL5 : d5.length = L5 * 5) (c6 c7 c8 c9 c10 c11 : Int) (q : Int)
    (h0 : OwnNs B 34 2 0 w s0 d0 ss0) (h1 : OwnNs B 97 2 1 w s1 d1 ss1) (h4 : OwnI B 111 2 w s4 d4) (h5 : OwnI B 119 5 w s5 d5)
    (hd : ∀ k, k ∈ feet (s0 :: ss0) → k ∈ feet (s1 :: ss1) → False) (hd4 : ∀ k, k ∈ feet (s0 :: ss0) ++ feet (s1 :: ss1) → k ∈ feet [s4] ++ feet [s5] → False) (hd5 : ∀ k, k ∈ feet [s4] → k ∈ feet [s5] → False)
    (hq0 : 0 ≤ q) (hq1 : q + (tot 0 d0 : Nat) + (tot 1 d1 : Nat) + (L4 * 2 : Nat) + (L5 * 5 : Nat) ≤ 4611686018427387904) :
    Calls Try.prog 13 #[.agg #[s0, s1, .int .i64 c2, .int .i64 c3, s4, s5, .int .i64 c6, .int .i64 c7, .int .i64 c8, .int .i64 c9, .int .i64 c10, .int .i64 c11], .int .i64 q] w (RetM w ((feet (s0 :: ss0) ++ feet (s1 :: ss1)) ++ (feet [s4] ++ feet [s5])) (.int .i64 (q + (tot 0 d0 : Nat) + (tot 1 d1 : Nat) + (L4 * 2 : Nat) + (L5 * 5 : Nat))) fun w' =>
      OwnNs B 34 2 0 w' s0 (marks 0 q d0) ss0 ∧ OwnNs B 97 2 1 w' s1 (marks 1 (q + (tot 0 d0 : Nat)) d1) ss1 ∧ OwnI B 111 2 w' s4 (run (q + (tot 0 d0 : Nat) + (tot 1 d1 : Nat)) (L4 * 2)) ∧ OwnI B 119 5 w' s5 (run (q + (tot 0 d0 : Nat) + (tot 1 d1 : Nat) + (L4 * 2 : Nat)) (L5 * 5))) := by
  obtain ⟨a0, n0, k0, rfl⟩ := h0.nest.shape
  obtain ⟨a1, n1, k1, rfl⟩ := h1.nest.shape
  obtain ⟨a4, n4, k4, rfl⟩ := h4.shape
  obtain ⟨a5, n5, k5, rfl⟩ := h5.shape
  have hf0 := h0.foot; have hf1 := h1.foot
  obtain ⟨Q, hQ⟩ : ∃ z : Int, z = q + ((tot 0 d0 : Nat) : Int) + ((tot 1 d1 : Nat) : Int) := ⟨_, rfl⟩
  rw [← hQ] at hq1 ⊢
  have hQ0 : 0 ≤ Q := by omega
  have hQ1 : q + (tot 0 d0 : Nat) + (tot 1 d1 : Nat) ≤ 4611686018427387904 := by omega
  have HQ := Lib.hid hQ
  clear hQ
  go_enter Try.func13, Try.ntmps13
  go_wp2_with fail
  refine (markDisk_c _ B _ _ ss0 _ _ ss1 q (h0.ext (by repeat' (first | (with_reducible exact Ext.refl _) | (with_reducible assumption) | (with_reducible refine Ext.drewN ?_ _) | (with_reducible refine Ext.drew ?_) | (with_reducible refine Ext.alloc ?_ _) | (with_reducible refine Ext.setCell ?_ ?_ _) | (with_reducible refine Ext.setRow ?_ ?_ _) | (with_reducible exact Nat.le_refl _) | (with_reducible refine Ext.trans ?_ (by assumption)) | omega))) (h1.ext (by repeat' (first | (with_reducible exact Ext.refl _) | (with_reducible assumption) | (with_reducible refine Ext.drewN ?_ _) | (with_reducible refine Ext.drew ?_) | (with_reducible refine Ext.alloc ?_ _) | (with_reducible refine Ext.setCell ?_ ?_ _) | (with_reducible refine Ext.setRow ?_ ?_ _) | (with_reducible exact Nat.le_refl _) | (with_reducible refine Ext.trans ?_ (by assumption)) | omega))) hd (by omega) hQ1).mono ?_
  rintro e w1 ⟨rfl, hx1, g0, g1⟩
  rw [← HQ.out]
  have hb : Blk w1 w.heap.size 45 #[.slice a0 n0 k0, .slice a1 n1 k1, .int .i64 c2, .int .i64 c3, .slice a4 n4 k4, .slice a5 n5 k5, .int .i64 c6, .int .i64 c7, .int .i64 c8, .int .i64 c9, .int .i64 c10, .int .i64 c11] := Blk.upd (Blk.new _ _ _) hx1 (fun hk => by
    rcases List.mem_append.1 hk with hh | hh
    · have := hf0 _ hh; omega
    · have := hf1 _ hh; omega)
  have hc := hb.cell; have hlt := hb.lt
  have g4 : OwnI B 111 2 w1 (.slice a4 n4 k4) d4 := OwnI.upd' (h4.ext ((Ext.refl w).alloc _)) hx1 (fun k h2 h3 => hd4 k h3 (List.mem_append_left _ h2))
  have g5 : OwnI B 119 5 w1 (.slice a5 n5 k5) d5 := OwnI.upd' (h5.ext ((Ext.refl w).alloc _)) hx1 (fun k h2 h3 => hd4 k h3 (List.mem_append_right _ h2))
  go_wp2_with fail
  refine (markState_c _ B _ _ _ _ L4 hL4 _ _ L5 hL5 _ _ _ Q (g4.ext (by repeat' (first | (with_reducible exact Ext.refl _) | (with_reducible assumption) | (with_reducible refine Ext.drewN ?_ _) | (with_reducible refine Ext.drew ?_) | (with_reducible refine Ext.alloc ?_ _) | (with_reducible refine Ext.setCell ?_ ?_ _) | (with_reducible refine Ext.setRow ?_ ?_ _) | (with_reducible exact Nat.le_refl _) | (with_reducible refine Ext.trans ?_ (by assumption)) | omega))) (g5.ext (by repeat' (first | (with_reducible exact Ext.refl _) | (with_reducible assumption) | (with_reducible refine Ext.drewN ?_ _) | (with_reducible refine Ext.drew ?_) | (with_reducible refine Ext.alloc ?_ _) | (with_reducible refine Ext.setCell ?_ ?_ _) | (with_reducible refine Ext.setRow ?_ ?_ _) | (with_reducible exact Nat.le_refl _) | (with_reducible refine Ext.trans ?_ (by assumption)) | omega))) hd5 (by omega) hq1).mono ?_
  rintro e w2 ⟨rfl, hx2, g4', g5'⟩
  clear hc
  go_wp2
  go_ret
  have HQ' := HQ.out
  subst HQ'
  refine ⟨rfl, ((Ext.upd ((Ext.refl w).alloc _) _).trans (hx1.more (fun k hk => List.mem_append_left _ hk))).trans (hx2.more (fun k hk => List.mem_append_right _ hk)), OwnNs.upd g0 hx2 (fun k h2 h3 => hd4 k (List.mem_append_left _ h2) h3), OwnNs.upd g1 hx2 (fun k h2 h3 => hd4 k (List.mem_append_right _ h2) h3), g4', g5'⟩
set_option maxHeartbeats 1600000 in
set_option maxRecDepth 100000 in
theorem heldStore_c (w : World) (s0 : Value) (d0 : List NRow) (s1 : Value) (d1 : List NRow) (c2 c3 : Int) (s4 : Value) (L4 : Nat) (s5 : Value) (L5 : Nat) (c6 c7 c8 c9 c10 c11 : Int) (q : Int)
    (h0 : Nest 0 w s0 (marks 0 q d0)) (h1 : Nest 1 w s1 (marks 1 (q + (tot 0 d0 : Nat)) d1)) (h4 : Ints 2 w s4 (run (q + (tot 0 d0 : Nat) + (tot 1 d1 : Nat)) (L4 * 2))) (h5 : Ints 5 w s5 (run (q + (tot 0 d0 : Nat) + (tot 1 d1 : Nat) + (L4 * 2 : Nat)) (L5 * 5)))
    (hq0 : 0 ≤ q) (hq1 : q + (tot 0 d0 : Nat) + (tot 1 d1 : Nat) + (L4 * 2 : Nat) + (L5 * 5 : Nat) ≤ 4611686018427387904) :
    Calls Try.prog 15 #[.agg #[s0, s1, .int .i64 c2, .int .i64 c3, s4, s5, .int .i64 c6, .int .i64 c7, .int .i64 c8, .int .i64 c9, .int .i64 c10, .int .i64 c11], .int .i64 q] w (RetV w (.int .i64 (q + (tot 0 d0 : Nat) + (tot 1 d1 : Nat) + (L4 * 2 : Nat) + (L5 * 5 : Nat)))) := by
  obtain ⟨a0, n0, k0, rfl⟩ := h0.shape
  obtain ⟨a1, n1, k1, rfl⟩ := h1.shape
  obtain ⟨a4, n4, k4, rfl⟩ := h4.shape
  obtain ⟨a5, n5, k5, rfl⟩ := h5.shape
  have hQ1 : q + (tot 0 d0 : Nat) + (tot 1 d1 : Nat) ≤ 4611686018427387904 := by omega
  obtain ⟨Q, hQ⟩ : ∃ z : Int, z = q + ((tot 0 d0 : Nat) : Int) + ((tot 1 d1 : Nat) : Int) := ⟨_, rfl⟩
  rw [← hQ] at hq1 h4 h5 ⊢
  obtain ⟨R, hR⟩ : ∃ z : Int, z = Q + ((L4 * 2 : Nat) : Int) + ((L5 * 5 : Nat) : Int) := ⟨_, rfl⟩
  rw [← hR]
  have hQ0 : 0 ≤ Q := by omega
  have hR0 : 0 ≤ R := by omega
  have ht0 : decide (Q < 0) = false := by simp; omega
  have ht1 : decide (R < 0) = false := by simp; omega
  have HQ := Lib.hid hQ; have HR := Lib.hid hR
  clear hQ hR
  go_enter Try.func15, Try.ntmps15
  go_wp2_with fail
  refine (heldDisk_c _ _ d0 _ d1 q (h0.ext (by repeat' (first | (with_reducible exact Ext.refl _) | (with_reducible assumption) | (with_reducible refine Ext.drewN ?_ _) | (with_reducible refine Ext.drew ?_) | (with_reducible refine Ext.alloc ?_ _) | (with_reducible refine Ext.setCell ?_ ?_ _) | (with_reducible refine Ext.setRow ?_ ?_ _) | (with_reducible exact Nat.le_refl _) | (with_reducible refine Ext.trans ?_ (by assumption)) | omega))) (h1.ext (by repeat' (first | (with_reducible exact Ext.refl _) | (with_reducible assumption) | (with_reducible refine Ext.drewN ?_ _) | (with_reducible refine Ext.drew ?_) | (with_reducible refine Ext.alloc ?_ _) | (with_reducible refine Ext.setCell ?_ ?_ _) | (with_reducible refine Ext.setRow ?_ ?_ _) | (with_reducible exact Nat.le_refl _) | (with_reducible refine Ext.trans ?_ (by assumption)) | omega))) (by omega) hQ1).mono ?_
  rintro e w1 ⟨rfl, hx1⟩
  rw [← HQ.out]
  have hb : Blk w1 w.heap.size 45 #[.slice a0 n0 k0, .slice a1 n1 k1, .int .i64 c2, .int .i64 c3, .slice a4 n4 k4, .slice a5 n5 k5, .int .i64 c6, .int .i64 c7, .int .i64 c8, .int .i64 c9, .int .i64 c10, .int .i64 c11] := Blk.ext (Blk.new _ _ _) hx1
  have hc := hb.cell; have hlt := hb.lt
  go_wp2_with fail
  refine (heldState_c _ _ _ _ L4 _ L5 _ _ _ Q (h4.ext (by repeat' (first | (with_reducible exact Ext.refl _) | (with_reducible assumption) | (with_reducible refine Ext.drewN ?_ _) | (with_reducible refine Ext.drew ?_) | (with_reducible refine Ext.alloc ?_ _) | (with_reducible refine Ext.setCell ?_ ?_ _) | (with_reducible refine Ext.setRow ?_ ?_ _) | (with_reducible exact Nat.le_refl _) | (with_reducible refine Ext.trans ?_ (by assumption)) | omega))) (h5.ext (by repeat' (first | (with_reducible exact Ext.refl _) | (with_reducible assumption) | (with_reducible refine Ext.drewN ?_ _) | (with_reducible refine Ext.drew ?_) | (with_reducible refine Ext.alloc ?_ _) | (with_reducible refine Ext.setCell ?_ ?_ _) | (with_reducible refine Ext.setRow ?_ ?_ _) | (with_reducible exact Nat.le_refl _) | (with_reducible refine Ext.trans ?_ (by assumption)) | omega))) (by omega) hq1).mono ?_
  rintro e w2 ⟨rfl, hx2⟩
  rw [← HR.out]
  clear hc
  go_wp2
  go_ret
  refine ⟨rfl, ?_⟩
  repeat' (first | (with_reducible exact Ext.refl _) | (with_reducible assumption) | (with_reducible refine Ext.drewN ?_ _) | (with_reducible refine Ext.drew ?_) | (with_reducible refine Ext.alloc ?_ _) | (with_reducible refine Ext.setCell ?_ ?_ _) | (with_reducible refine Ext.setRow ?_ ?_ _) | (with_reducible exact Nat.le_refl _) | (with_reducible refine Ext.trans ?_ (by assumption)) | omega)

end Go.Proofs.Ytankkbjlneeolaa
