/- HelpE: contracts of the statements' helper functions on disks: marks. -/
import Derived.Test.YtankkbjlneeolaaHelpD
namespace Go.Proofs.Ytankkbjlneeolaa
open Go.RowKit Go.G8

set_option maxHeartbeats 1600000 in
set_option maxRecDepth 100000 in
theorem markDisk_c (w : World) (B : Nat) (s0 : Value) (d0 : List NRow) (ss0 : List Value) (s1 : Value) (d1 : List NRow) (ss1 : List Value) (q : Int) (h0 : OwnNs B 34 2 0 w s0 d0 ss0) (h1 : OwnNs B 97 2 1 w s1 d1 ss1)
    (hd : ∀ k, k ∈ feet (s0 :: ss0) → k ∈ feet (s1 :: ss1) → False) (hq0 : 0 ≤ q) (hq1 : q + (tot 0 d0 : Nat) + (tot 1 d1 : Nat) ≤ 4611686018427387904) :
    Calls Try.prog 32 #[.agg #[s0, s1], .int .i64 q] w (RetM w (feet (s0 :: ss0) ++ feet (s1 :: ss1)) (.int .i64 (q + (tot 0 d0 : Nat) + (tot 1 d1 : Nat))) fun w' => OwnNs B 34 2 0 w' s0 (marks 0 q d0) ss0 ∧ OwnNs B 97 2 1 w' s1 (marks 1 (q + (tot 0 d0 : Nat)) d1) ss1) := by
  obtain ⟨a0, n0, c0, rfl⟩ := h0.nest.shape
  obtain ⟨a1, n1, c1, rfl⟩ := h1.nest.shape
  go_enter Try.func32, Try.ntmps32
  go_wp2_with fail
  refine (markInt64SS_c _ B _ _ ss0 _ (h0.ext (by repeat' (first | (with_reducible exact Ext.refl _) | (with_reducible assumption) | (with_reducible refine Ext.drewN ?_ _) | (with_reducible refine Ext.drew ?_) | (with_reducible refine Ext.alloc ?_ _) | (with_reducible refine Ext.setCell ?_ ?_ _) | (with_reducible refine Ext.setRow ?_ ?_ _) | (with_reducible exact Nat.le_refl _) | (with_reducible refine Ext.trans ?_ (by assumption)) | omega))) (by omega) (by omega)).mono ?_
  rintro e w1 ⟨rfl, hx1, g0⟩
  have hb : Blk w1 w.heap.size 38 #[.slice a0 n0 c0, .slice a1 n1 c1] := Blk.upd (Blk.new _ _ _) hx1 (fun hk => by have := h0.foot _ hk; omega)
  have hc := hb.cell
  have g1 : OwnNs B 97 2 1 w1 (.slice a1 n1 c1) d1 ss1 := OwnNs.upd (h1.ext ((Ext.refl w).alloc _)) hx1 (fun k h2 h3 => hd k h3 h2)
  have hlt := hb.lt
  go_wp2_with fail
  refine (markWriteS_c _ B _ _ ss1 _ (g1.ext (by repeat' (first | (with_reducible exact Ext.refl _) | (with_reducible assumption) | (with_reducible refine Ext.drewN ?_ _) | (with_reducible refine Ext.drew ?_) | (with_reducible refine Ext.alloc ?_ _) | (with_reducible refine Ext.setCell ?_ ?_ _) | (with_reducible refine Ext.setRow ?_ ?_ _) | (with_reducible exact Nat.le_refl _) | (with_reducible refine Ext.trans ?_ (by assumption)) | omega))) (by omega) (by omega)).mono ?_
  rintro e w2 ⟨rfl, hx2, g1'⟩
  clear hc
  go_wp2
  go_ret
  refine ⟨rfl, ((Ext.upd ((Ext.refl w).alloc _) _).trans (hx1.more (fun k hk => List.mem_append_left _ hk))).trans (hx2.more (fun k hk => List.mem_append_right _ hk)), OwnNs.upd g0 hx2 (fun k h2 h3 => hd k h2 h3), g1'⟩
set_option maxHeartbeats 1600000 in
set_option maxRecDepth 100000 in
theorem heldDisk_c (w : World) (s0 : Value) (d0 : List NRow) (s1 : Value) (d1 : List NRow) (q : Int) (h0 : Nest 0 w s0 (marks 0 q d0)) (h1 : Nest 1 w s1 (marks 1 (q + (tot 0 d0 : Nat)) d1)) (hq0 : 0 ≤ q) (hq1 : q + (tot 0 d0 : Nat) + (tot 1 d1 : Nat) ≤ 4611686018427387904) :
    Calls Try.prog 34 #[.agg #[s0, s1], .int .i64 q] w (RetV w (.int .i64 (q + (tot 0 d0 : Nat) + (tot 1 d1 : Nat)))) := by
  obtain ⟨a0, n0, c0, rfl⟩ := h0.shape
  obtain ⟨a1, n1, c1, rfl⟩ := h1.shape
  have ht0 : decide (q + ((tot 0 d0 : Nat) : Int) < 0) = false := by simp; omega
  have ht1 : decide (q + ((tot 0 d0 : Nat) : Int) + ((tot 1 d1 : Nat) : Int) < 0) = false := by simp; omega
  go_enter Try.func34, Try.ntmps34
  go_wp2_with fail
  refine (heldInt64SS_c _ _ _ _ (h0.ext (by repeat' (first | (with_reducible exact Ext.refl _) | (with_reducible assumption) | (with_reducible refine Ext.drewN ?_ _) | (with_reducible refine Ext.drew ?_) | (with_reducible refine Ext.alloc ?_ _) | (with_reducible refine Ext.setCell ?_ ?_ _) | (with_reducible refine Ext.setRow ?_ ?_ _) | (with_reducible exact Nat.le_refl _) | (with_reducible refine Ext.trans ?_ (by assumption)) | omega))) (by omega) (by omega)).mono ?_
  rintro e w1 ⟨rfl, hx1⟩
  have hb : Blk w1 w.heap.size 38 #[.slice a0 n0 c0, .slice a1 n1 c1] := Blk.ext (Blk.new _ _ _) hx1
  have hc := hb.cell; have hlt := hb.lt
  go_wp2_with fail
  refine (heldWriteS_c _ _ _ _ (h1.ext (by repeat' (first | (with_reducible exact Ext.refl _) | (with_reducible assumption) | (with_reducible refine Ext.drewN ?_ _) | (with_reducible refine Ext.drew ?_) | (with_reducible refine Ext.alloc ?_ _) | (with_reducible refine Ext.setCell ?_ ?_ _) | (with_reducible refine Ext.setRow ?_ ?_ _) | (with_reducible exact Nat.le_refl _) | (with_reducible refine Ext.trans ?_ (by assumption)) | omega))) (by omega) (by omega)).mono ?_
  rintro e w2 ⟨rfl, hx2⟩
  clear hc
  go_wp2
  go_ret
  refine ⟨rfl, ?_⟩
  repeat' (first | (with_reducible exact Ext.refl _) | (with_reducible assumption) | (with_reducible refine Ext.drewN ?_ _) | (with_reducible refine Ext.drew ?_) | (with_reducible refine Ext.alloc ?_ _) | (with_reducible refine Ext.setCell ?_ ?_ _) | (with_reducible refine Ext.setRow ?_ ?_ _) | (with_reducible exact Nat.le_refl _) | (with_reducible refine Ext.trans ?_ (by assumption)) | omega)

end Go.Proofs.Ytankkbjlneeolaa
